import Derived.Test.YtmjjfchahkdceaaDoorEnv
set_option linter.unusedVariables false
set_option linter.defProp false
set_option maxRecDepth 100000
namespace Go.Proofs.YtmjjfchahkdceaaDoor
open Go.Ab
variable (n : Nat) (h : Heap) (Q : Qt) (st : St) (K : Kt) (a0 a1 a2 a3 a4 a5 a6 a7 a8 a9 b0 b1 b2 b3 b4 b5 b6 b7 b8 b9 d0 d1 d2 d3 d4 d5 d6 d7 d8 d9 e0 e1 e2 e3 e4 e5 e6 e7 e8 e9 f0 f1 f2 f3 f4 f5 f6 f7 f8 f9 g0 g1 g2 g3 g4 g5 g6 g7 g8 g9 : AV)
/-! function 17: sindri/cursor.New -/
noncomputable def c17_0 : Code := bodyOf Tryd.f17
noncomputable def c17_1 : Code := cl c17_0
theorem w17_1 : awp X n c17_1 Q ((a0::a1::a2::a3::a4::a5::a6::a7::[]), h) = (a_mov (.v (.pointer none)) h (.c (fun t2 h1 => Q .normal ((a0::a1::t2::a3::a4::a5::a6::a7::[]), h1)) ())) := by rw [awp_eq]; kernel_rfl
noncomputable def c17_2 : Code := cr c17_0
noncomputable def c17_3 : Code := cl c17_2
theorem w17_3 : awp X n c17_3 Q ((a0::a1::a2::a3::a4::a5::a6::a7::[]), h) = (a_lit 1 0 [] [] h (.c (fun t3 h1 => a_mov a0 h1 (.c (fun t4 h2 => a_app 1 1 t3 t4 h2 (.c (fun t5 h3 => a_build [.v (.slice none 0 0), .v (.int .i64 0), .v (.bool false), .v (.int .i64 0)] [(0, 1, t5), (2, 1, (.v (.bool true)))] h3 (.c (fun t6 h4 => a_box t6 h4 (.c (fun t7 h5 => a_mov t7 h5 (.c (fun t2 h6 => Q .normal ((a0::a1::t2::t3::t4::t5::t6::t7::[]), h6)) ())) ())) ())) ())) ())) ())) := by rw [awp_eq]; kernel_rfl
noncomputable def c17_4 : Code := cr c17_2
theorem w17_4 : awp X n c17_4 Q st = Q .ret st := by rw [awp_eq]; kernel_rfl
theorem w17_2 : awp X n c17_2 Q st = awp X n c17_3 (thenQ (awp X n c17_4 Q) Q) st := by rw [awp_eq]; kernel_rfl
theorem w17_0 : awp X n c17_0 Q st = awp X n c17_1 (thenQ (awp X n c17_2 Q) Q) st := by rw [awp_eq]; kernel_rfl
theorem q17_ret : retQ X Tryd.f17 K .ret ((a0::a1::a2::a3::a4::a5::a6::a7::[]), h) = (K.K a2 h) := by kernel_rfl
theorem q17_normal : retQ X Tryd.f17 K .normal ((a0::a1::a2::a3::a4::a5::a6::a7::[]), h) = (K.K a2 h) := by kernel_rfl
theorem i17 (H : awp X h.length c17_0 (retQ X Tryd.f17 K) ((a0::.bad::.bad::.bad::.bad::.bad::.bad::.bad::[]), h)) : ACall X 17 [a0] h K := acall_intro (fn := Tryd.f17) (by kernel_rfl) (by kernel_rfl) (by kernel_rfl) H
noncomputable def R17 := And.intro (And.intro (w17_1) (And.intro w17_3 w17_4)) (And.intro (And.intro w17_2 w17_0) (And.intro q17_ret q17_normal))
/-! function 18: (*sindri/cursor.Cursor).Left -/
noncomputable def c18_0 : Code := bodyOf Tryd.f18
noncomputable def c18_1 : Code := cl c18_0
theorem w18_1 : awp X n c18_1 Q ((a0::a1::a2::a3::a4::a5::a6::a7::a8::a9::b0::b1::b2::b3::b4::b5::[]), h) = (a_mov (.v (.int .i64 0)) h (.c (fun t2 h1 => Q .normal ((a0::a1::t2::a3::a4::a5::a6::a7::a8::a9::b0::b1::b2::b3::b4::b5::[]), h1)) ())) := by rw [awp_eq]; kernel_rfl
noncomputable def c18_2 : Code := cr c18_0
noncomputable def c18_3 : Code := cl c18_2
noncomputable def c18_4 : Code := cl c18_3
theorem w18_4 : awp X n c18_4 Q ((a0::a1::a2::a3::a4::a5::a6::a7::a8::a9::b0::b1::b2::b3::b4::b5::[]), h) = (a_mov a0 h (.c (fun t3 h1 => ACall X 21 [t3] h1 (.c (fun t4 h2 => a_bin .neq t4 (.v (.int .i64 0)) h2 (.c (fun t5 h3 => Q .normal ((a0::a1::a2::t3::t4::t5::a6::a7::a8::a9::b0::b1::b2::b3::b4::b5::[]), h3)) ())) ())) ())) := by rw [awp_eq]; kernel_rfl
noncomputable def c18_5 : Code := cr c18_3
noncomputable def c18_6 : Code := cl c18_5
noncomputable def c18_7 : Code := cl c18_6
theorem w18_7 : awp X n c18_7 Q ((a0::a1::a2::a3::a4::a5::a6::a7::a8::a9::b0::b1::b2::b3::b4::b5::[]), h) = (a_mov (.v (.int .i64 0)) h (.c (fun t2 h1 => Q .normal ((a0::a1::t2::a3::a4::a5::a6::a7::a8::a9::b0::b1::b2::b3::b4::b5::[]), h1)) ())) := by rw [awp_eq]; kernel_rfl
noncomputable def c18_8 : Code := cr c18_6
theorem w18_8 : awp X n c18_8 Q st = Q .ret st := by rw [awp_eq]; kernel_rfl
theorem w18_6 : awp X n c18_6 Q st = awp X n c18_7 (thenQ (awp X n c18_8 Q) Q) st := by rw [awp_eq]; kernel_rfl
noncomputable def c18_9 : Code := cr c18_5
theorem w18_9 : awp X n c18_9 Q st = Q .normal st := by rw [awp_eq]; kernel_rfl
theorem w18_5 : awp X n c18_5 Q ((a0::a1::a2::a3::a4::a5::a6::a7::a8::a9::b0::b1::b2::b3::b4::b5::[]), h) = a_cond a5 (awp X n c18_6 Q ((a0::a1::a2::a3::a4::a5::a6::a7::a8::a9::b0::b1::b2::b3::b4::b5::[]), h)) (awp X n c18_9 Q ((a0::a1::a2::a3::a4::a5::a6::a7::a8::a9::b0::b1::b2::b3::b4::b5::[]), h)) := by rw [awp_eq]; kernel_rfl
theorem w18_3 : awp X n c18_3 Q st = awp X n c18_4 (thenQ (awp X n c18_5 Q) Q) st := by rw [awp_eq]; kernel_rfl
noncomputable def c18_10 : Code := cr c18_2
noncomputable def c18_11 : Code := cl c18_10
theorem w18_11 : awp X n c18_11 Q ((a0::a1::a2::a3::a4::a5::a6::a7::a8::a9::b0::b1::b2::b3::b4::b5::[]), h) = (a_mov a0 h (.c (fun t6 h1 => a_nilc t6 h1 (.c (fun t7 h2 => a_fa 0 t7 h2 (.c (fun t8 h3 => a_load 1 false t8 h3 (.c (fun t9 h4 => a_len t9 h4 (.c (fun t10 h5 => a_mov a0 h5 (.c (fun t11 h6 => a_nilc t11 h6 (.c (fun t12 h7 => a_fa 1 t12 h7 (.c (fun t13 h8 => a_load 1 false t13 h8 (.c (fun t14 h9 => a_bin .sub t10 t14 h9 (.c (fun t15 h10 => a_mov t15 h10 (.c (fun t2 h11 => Q .normal ((a0::a1::t2::a3::a4::a5::t6::t7::t8::t9::t10::t11::t12::t13::t14::t15::[]), h11)) ())) ())) ())) ())) ())) ())) ())) ())) ())) ())) ())) := by rw [awp_eq]; kernel_rfl
noncomputable def c18_12 : Code := cr c18_10
theorem w18_12 : awp X n c18_12 Q st = Q .ret st := by rw [awp_eq]; kernel_rfl
theorem w18_10 : awp X n c18_10 Q st = awp X n c18_11 (thenQ (awp X n c18_12 Q) Q) st := by rw [awp_eq]; kernel_rfl
theorem w18_2 : awp X n c18_2 Q st = awp X n c18_3 (thenQ (awp X n c18_10 Q) Q) st := by rw [awp_eq]; kernel_rfl
theorem w18_0 : awp X n c18_0 Q st = awp X n c18_1 (thenQ (awp X n c18_2 Q) Q) st := by rw [awp_eq]; kernel_rfl
theorem q18_ret : retQ X Tryd.f18 K .ret ((a0::a1::a2::a3::a4::a5::a6::a7::a8::a9::b0::b1::b2::b3::b4::b5::[]), h) = (K.K a2 h) := by kernel_rfl
theorem q18_normal : retQ X Tryd.f18 K .normal ((a0::a1::a2::a3::a4::a5::a6::a7::a8::a9::b0::b1::b2::b3::b4::b5::[]), h) = (K.K a2 h) := by kernel_rfl
theorem i18 (H : awp X h.length c18_0 (retQ X Tryd.f18 K) ((a0::.bad::.bad::.bad::.bad::.bad::.bad::.bad::.bad::.bad::.bad::.bad::.bad::.bad::.bad::.bad::[]), h)) : ACall X 18 [a0] h K := acall_intro (fn := Tryd.f18) (by kernel_rfl) (by kernel_rfl) (by kernel_rfl) H
noncomputable def R18 := And.intro (And.intro (And.intro (w18_1) (And.intro w18_4 w18_7)) (And.intro (And.intro w18_8 w18_6) (And.intro w18_9 w18_5))) (And.intro (And.intro (And.intro w18_3 w18_11) (And.intro w18_12 w18_10)) (And.intro (And.intro w18_2 w18_0) (And.intro q18_ret q18_normal)))
/-! function 19: (*sindri/cursor.Cursor).At -/
noncomputable def c19_0 : Code := bodyOf Tryd.f19
noncomputable def c19_1 : Code := cl c19_0
theorem w19_1 : awp X n c19_1 Q ((a0::a1::a2::a3::a4::a5::a6::a7::a8::[]), h) = (a_mov (.v (.int .i64 0)) h (.c (fun t2 h1 => Q .normal ((a0::a1::t2::a3::a4::a5::a6::a7::a8::[]), h1)) ())) := by rw [awp_eq]; kernel_rfl
noncomputable def c19_2 : Code := cr c19_0
noncomputable def c19_3 : Code := cl c19_2
noncomputable def c19_4 : Code := cl c19_3
theorem w19_4 : awp X n c19_4 Q ((a0::a1::a2::a3::a4::a5::a6::a7::a8::[]), h) = (a_mov a0 h (.c (fun t3 h1 => a_eqp false t3 (.v (.pointer none)) h1 (.c (fun t4 h2 => Q .normal ((a0::a1::a2::t3::t4::a5::a6::a7::a8::[]), h2)) ())) ())) := by rw [awp_eq]; kernel_rfl
noncomputable def c19_5 : Code := cr c19_3
noncomputable def c19_6 : Code := cl c19_5
noncomputable def c19_7 : Code := cl c19_6
theorem w19_7 : awp X n c19_7 Q ((a0::a1::a2::a3::a4::a5::a6::a7::a8::[]), h) = (a_mov (.v (.int .i64 0)) h (.c (fun t2 h1 => Q .normal ((a0::a1::t2::a3::a4::a5::a6::a7::a8::[]), h1)) ())) := by rw [awp_eq]; kernel_rfl
noncomputable def c19_8 : Code := cr c19_6
theorem w19_8 : awp X n c19_8 Q st = Q .ret st := by rw [awp_eq]; kernel_rfl
theorem w19_6 : awp X n c19_6 Q st = awp X n c19_7 (thenQ (awp X n c19_8 Q) Q) st := by rw [awp_eq]; kernel_rfl
noncomputable def c19_9 : Code := cr c19_5
theorem w19_9 : awp X n c19_9 Q st = Q .normal st := by rw [awp_eq]; kernel_rfl
theorem w19_5 : awp X n c19_5 Q ((a0::a1::a2::a3::a4::a5::a6::a7::a8::[]), h) = a_cond a4 (awp X n c19_6 Q ((a0::a1::a2::a3::a4::a5::a6::a7::a8::[]), h)) (awp X n c19_9 Q ((a0::a1::a2::a3::a4::a5::a6::a7::a8::[]), h)) := by rw [awp_eq]; kernel_rfl
theorem w19_3 : awp X n c19_3 Q st = awp X n c19_4 (thenQ (awp X n c19_5 Q) Q) st := by rw [awp_eq]; kernel_rfl
noncomputable def c19_10 : Code := cr c19_2
noncomputable def c19_11 : Code := cl c19_10
theorem w19_11 : awp X n c19_11 Q ((a0::a1::a2::a3::a4::a5::a6::a7::a8::[]), h) = (a_mov a0 h (.c (fun t5 h1 => a_nilc t5 h1 (.c (fun t6 h2 => a_fa 1 t6 h2 (.c (fun t7 h3 => a_load 1 false t7 h3 (.c (fun t8 h4 => a_mov t8 h4 (.c (fun t2 h5 => Q .normal ((a0::a1::t2::a3::a4::t5::t6::t7::t8::[]), h5)) ())) ())) ())) ())) ())) := by rw [awp_eq]; kernel_rfl
noncomputable def c19_12 : Code := cr c19_10
theorem w19_12 : awp X n c19_12 Q st = Q .ret st := by rw [awp_eq]; kernel_rfl
theorem w19_10 : awp X n c19_10 Q st = awp X n c19_11 (thenQ (awp X n c19_12 Q) Q) st := by rw [awp_eq]; kernel_rfl
theorem w19_2 : awp X n c19_2 Q st = awp X n c19_3 (thenQ (awp X n c19_10 Q) Q) st := by rw [awp_eq]; kernel_rfl
theorem w19_0 : awp X n c19_0 Q st = awp X n c19_1 (thenQ (awp X n c19_2 Q) Q) st := by rw [awp_eq]; kernel_rfl
theorem q19_ret : retQ X Tryd.f19 K .ret ((a0::a1::a2::a3::a4::a5::a6::a7::a8::[]), h) = (K.K a2 h) := by kernel_rfl
theorem q19_normal : retQ X Tryd.f19 K .normal ((a0::a1::a2::a3::a4::a5::a6::a7::a8::[]), h) = (K.K a2 h) := by kernel_rfl
theorem i19 (H : awp X h.length c19_0 (retQ X Tryd.f19 K) ((a0::.bad::.bad::.bad::.bad::.bad::.bad::.bad::.bad::[]), h)) : ACall X 19 [a0] h K := acall_intro (fn := Tryd.f19) (by kernel_rfl) (by kernel_rfl) (by kernel_rfl) H
noncomputable def R19 := And.intro (And.intro (And.intro (w19_1) (And.intro w19_4 w19_7)) (And.intro (And.intro w19_8 w19_6) (And.intro w19_9 w19_5))) (And.intro (And.intro (And.intro w19_3 w19_11) (And.intro w19_12 w19_10)) (And.intro (And.intro w19_2 w19_0) (And.intro q19_ret q19_normal)))
/-! function 21: (*sindri/cursor.Cursor).Err -/
noncomputable def c21_0 : Code := bodyOf Tryd.f21
noncomputable def c21_1 : Code := cl c21_0
theorem w21_1 : awp X n c21_1 Q ((a0::a1::a2::a3::a4::a5::a6::a7::a8::a9::b0::b1::b2::b3::b4::b5::[]), h) = (a_mov (.v (.int .i64 0)) h (.c (fun t2 h1 => Q .normal ((a0::a1::t2::a3::a4::a5::a6::a7::a8::a9::b0::b1::b2::b3::b4::b5::[]), h1)) ())) := by rw [awp_eq]; kernel_rfl
noncomputable def c21_2 : Code := cr c21_0
noncomputable def c21_3 : Code := cl c21_2
noncomputable def c21_4 : Code := cl c21_3
theorem w21_4 : awp X n c21_4 Q ((a0::a1::a2::a3::a4::a5::a6::a7::a8::a9::b0::b1::b2::b3::b4::b5::[]), h) = (a_mov a0 h (.c (fun t3 h1 => a_eqp false t3 (.v (.pointer none)) h1 (.c (fun t4 h2 => a_mov t4 h2 (.c (fun t5 h3 => a_on t5 false (fun k => a_mov a0 h3 k) h3 (.c (fun t6 h4 => a_on t5 false (fun k => a_nilc t6 h4 k) h4 (.c (fun t7 h5 => a_on t5 false (fun k => a_fa 2 t7 h5 k) h5 (.c (fun t8 h6 => a_on t5 false (fun k => a_load 1 false t8 h6 k) h6 (.c (fun t9 h7 => a_on t5 false (fun k => a_un .not t9 h7 k) h7 (.c (fun t10 h8 => a_pick t5 (.v (.bool true)) t10 h8 (.c (fun t11 h9 => Q .normal ((a0::a1::a2::t3::t4::t5::t6::t7::t8::t9::t10::t11::b2::b3::b4::b5::[]), h9)) ())) ())) ())) ())) ())) ())) ())) ())) ())) := by rw [awp_eq]; kernel_rfl
noncomputable def c21_5 : Code := cr c21_3
noncomputable def c21_6 : Code := cl c21_5
noncomputable def c21_7 : Code := cl c21_6
theorem w21_7 : awp X n c21_7 Q ((a0::a1::a2::a3::a4::a5::a6::a7::a8::a9::b0::b1::b2::b3::b4::b5::[]), h) = (a_mov (.v (.int .i64 1)) h (.c (fun t2 h1 => Q .normal ((a0::a1::t2::a3::a4::a5::a6::a7::a8::a9::b0::b1::b2::b3::b4::b5::[]), h1)) ())) := by rw [awp_eq]; kernel_rfl
noncomputable def c21_8 : Code := cr c21_6
theorem w21_8 : awp X n c21_8 Q st = Q .ret st := by rw [awp_eq]; kernel_rfl
theorem w21_6 : awp X n c21_6 Q st = awp X n c21_7 (thenQ (awp X n c21_8 Q) Q) st := by rw [awp_eq]; kernel_rfl
noncomputable def c21_9 : Code := cr c21_5
theorem w21_9 : awp X n c21_9 Q st = Q .normal st := by rw [awp_eq]; kernel_rfl
theorem w21_5 : awp X n c21_5 Q ((a0::a1::a2::a3::a4::a5::a6::a7::a8::a9::b0::b1::b2::b3::b4::b5::[]), h) = a_cond b1 (awp X n c21_6 Q ((a0::a1::a2::a3::a4::a5::a6::a7::a8::a9::b0::b1::b2::b3::b4::b5::[]), h)) (awp X n c21_9 Q ((a0::a1::a2::a3::a4::a5::a6::a7::a8::a9::b0::b1::b2::b3::b4::b5::[]), h)) := by rw [awp_eq]; kernel_rfl
theorem w21_3 : awp X n c21_3 Q st = awp X n c21_4 (thenQ (awp X n c21_5 Q) Q) st := by rw [awp_eq]; kernel_rfl
noncomputable def c21_10 : Code := cr c21_2
noncomputable def c21_11 : Code := cl c21_10
theorem w21_11 : awp X n c21_11 Q ((a0::a1::a2::a3::a4::a5::a6::a7::a8::a9::b0::b1::b2::b3::b4::b5::[]), h) = (a_mov a0 h (.c (fun t12 h1 => a_nilc t12 h1 (.c (fun t13 h2 => a_fa 3 t13 h2 (.c (fun t14 h3 => a_load 1 false t14 h3 (.c (fun t15 h4 => a_mov t15 h4 (.c (fun t2 h5 => Q .normal ((a0::a1::t2::a3::a4::a5::a6::a7::a8::a9::b0::b1::t12::t13::t14::t15::[]), h5)) ())) ())) ())) ())) ())) := by rw [awp_eq]; kernel_rfl
noncomputable def c21_12 : Code := cr c21_10
theorem w21_12 : awp X n c21_12 Q st = Q .ret st := by rw [awp_eq]; kernel_rfl
theorem w21_10 : awp X n c21_10 Q st = awp X n c21_11 (thenQ (awp X n c21_12 Q) Q) st := by rw [awp_eq]; kernel_rfl
theorem w21_2 : awp X n c21_2 Q st = awp X n c21_3 (thenQ (awp X n c21_10 Q) Q) st := by rw [awp_eq]; kernel_rfl
theorem w21_0 : awp X n c21_0 Q st = awp X n c21_1 (thenQ (awp X n c21_2 Q) Q) st := by rw [awp_eq]; kernel_rfl
theorem q21_ret : retQ X Tryd.f21 K .ret ((a0::a1::a2::a3::a4::a5::a6::a7::a8::a9::b0::b1::b2::b3::b4::b5::[]), h) = (K.K a2 h) := by kernel_rfl
theorem q21_normal : retQ X Tryd.f21 K .normal ((a0::a1::a2::a3::a4::a5::a6::a7::a8::a9::b0::b1::b2::b3::b4::b5::[]), h) = (K.K a2 h) := by kernel_rfl
theorem i21 (H : awp X h.length c21_0 (retQ X Tryd.f21 K) ((a0::.bad::.bad::.bad::.bad::.bad::.bad::.bad::.bad::.bad::.bad::.bad::.bad::.bad::.bad::.bad::[]), h)) : ACall X 21 [a0] h K := acall_intro (fn := Tryd.f21) (by kernel_rfl) (by kernel_rfl) (by kernel_rfl) H
noncomputable def R21 := And.intro (And.intro (And.intro (w21_1) (And.intro w21_4 w21_7)) (And.intro (And.intro w21_8 w21_6) (And.intro w21_9 w21_5))) (And.intro (And.intro (And.intro w21_3 w21_11) (And.intro w21_12 w21_10)) (And.intro (And.intro w21_2 w21_0) (And.intro q21_ret q21_normal)))
/-! function 28: sindri/cursor.Put -/
noncomputable def c28_0 : Code := bodyOf Tryd.f28
noncomputable def c28_1 : Code := cl c28_0
theorem w28_1 : awp X n c28_1 Q ((a0::a1::a2::a3::a4::a5::a6::a7::a8::a9::b0::b1::b2::b3::b4::b5::b6::b7::b8::b9::d0::d1::d2::d3::[]), h) = (a_mov (.v (.slice none 0 0)) h (.c (fun t6 h1 => Q .normal ((a0::a1::a2::a3::a4::a5::t6::a7::a8::a9::b0::b1::b2::b3::b4::b5::b6::b7::b8::b9::d0::d1::d2::d3::[]), h1)) ())) := by rw [awp_eq]; kernel_rfl
noncomputable def c28_2 : Code := cr c28_0
noncomputable def c28_3 : Code := cl c28_2
noncomputable def c28_4 : Code := cl c28_3
theorem w28_4 : awp X n c28_4 Q ((a0::a1::a2::a3::a4::a5::a6::a7::a8::a9::b0::b1::b2::b3::b4::b5::b6::b7::b8::b9::d0::d1::d2::d3::[]), h) = (a_mov a2 h (.c (fun t8 h1 => ACall X 45 [t8] h1 (.c (fun t9 h2 => a_mov (.v (.int .i64 0)) h2 (.c (fun t10 h3 => Q .normal ((a0::a1::a2::a3::a4::a5::a6::a7::t8::t9::t10::b1::b2::b3::b4::b5::b6::b7::b8::b9::d0::d1::d2::d3::[]), h3)) ())) ())) ())) := by rw [awp_eq]; kernel_rfl
noncomputable def c28_5 : Code := cr c28_3
noncomputable def c28_6 : Code := cl c28_5
noncomputable def c28_7 : Code := cl c28_6
noncomputable def c28_8 : Code := cl c28_7
theorem w28_8 : awp X n c28_8 Q ((a0::a1::a2::a3::a4::a5::a6::a7::a8::a9::b0::b1::b2::b3::b4::b5::b6::b7::b8::b9::d0::d1::d2::d3::[]), h) = (a_bin .lss b0 a9 h (.c (fun t11 h1 => Q .normal ((a0::a1::a2::a3::a4::a5::a6::a7::a8::a9::b0::t11::b2::b3::b4::b5::b6::b7::b8::b9::d0::d1::d2::d3::[]), h1)) ())) := by rw [awp_eq]; kernel_rfl
noncomputable def c28_9 : Code := cr c28_7
noncomputable def c28_10 : Code := cl c28_9
noncomputable def c28_11 : Code := cl c28_10
theorem w28_11 : awp X n c28_11 Q st = Q .normal st := by rw [awp_eq]; kernel_rfl
noncomputable def c28_12 : Code := cr c28_10
theorem w28_12 : awp X n c28_12 Q st = Q (.exit 0) st := by rw [awp_eq]; kernel_rfl
theorem w28_10 : awp X n c28_10 Q ((a0::a1::a2::a3::a4::a5::a6::a7::a8::a9::b0::b1::b2::b3::b4::b5::b6::b7::b8::b9::d0::d1::d2::d3::[]), h) = a_cond b1 (awp X n c28_11 Q ((a0::a1::a2::a3::a4::a5::a6::a7::a8::a9::b0::b1::b2::b3::b4::b5::b6::b7::b8::b9::d0::d1::d2::d3::[]), h)) (awp X n c28_12 Q ((a0::a1::a2::a3::a4::a5::a6::a7::a8::a9::b0::b1::b2::b3::b4::b5::b6::b7::b8::b9::d0::d1::d2::d3::[]), h)) := by rw [awp_eq]; kernel_rfl
noncomputable def c28_13 : Code := cr c28_9
noncomputable def c28_14 : Code := cl c28_13
noncomputable def c28_15 : Code := cl c28_14
noncomputable def c28_16 : Code := cl c28_15
theorem w28_16 : awp X n c28_16 Q ((a0::a1::a2::a3::a4::a5::a6::a7::a8::a9::b0::b1::b2::b3::b4::b5::b6::b7::b8::b9::d0::d1::d2::d3::[]), h) = (a_mov b0 h (.c (fun t12 h1 => a_mov t12 h1 (.c (fun t7 h2 => Q .normal ((a0::a1::a2::a3::a4::a5::a6::t7::a8::a9::b0::b1::t12::b3::b4::b5::b6::b7::b8::b9::d0::d1::d2::d3::[]), h2)) ())) ())) := by rw [awp_eq]; kernel_rfl
noncomputable def c28_17 : Code := cr c28_15
theorem w28_17 : awp X n c28_17 Q ((a0::a1::a2::a3::a4::a5::a6::a7::a8::a9::b0::b1::b2::b3::b4::b5::b6::b7::b8::b9::d0::d1::d2::d3::[]), h) = (a_mov a0 h (.c (fun t13 h1 => a_mov a1 h1 (.c (fun t14 h2 => a_mov a7 h2 (.c (fun t15 h3 => a_bin .mul (.v (.int .i64 8)) t15 h3 (.c (fun t16 h4 => a_cint .u64 t16 h4 (.c (fun t17 h5 => a_bin .shr t14 t17 h5 (.c (fun t18 h6 => a_cint .u8 t18 h6 (.c (fun t19 h7 => a_lit 1 1 [.v (.int .u8 0)] [(0, 1, t19)] h7 (.c (fun t20 h8 => a_app 1 1 t13 t20 h8 (.c (fun t21 h9 => a_mov t21 h9 (.c (fun t0 h10 => Q .normal ((t0::a1::a2::a3::a4::a5::a6::a7::a8::a9::b0::b1::b2::t13::t14::t15::t16::t17::t18::t19::t20::t21::d2::d3::[]), h10)) ())) ())) ())) ())) ())) ())) ())) ())) ())) ())) := by rw [awp_eq]; kernel_rfl
theorem w28_15 : awp X n c28_15 Q st = awp X n c28_16 (thenQ (awp X n c28_17 Q) Q) st := by rw [awp_eq]; kernel_rfl
theorem w28_14 : awp X n c28_14 Q st = awp X n c28_15 (blockQ 1 Q) st := by rw [awp_eq]; kernel_rfl
noncomputable def c28_18 : Code := cr c28_13
theorem w28_18 : awp X n c28_18 Q ((a0::a1::a2::a3::a4::a5::a6::a7::a8::a9::b0::b1::b2::b3::b4::b5::b6::b7::b8::b9::d0::d1::d2::d3::[]), h) = (a_bin .add b0 (.v (.int .i64 1)) h (.c (fun t22 h1 => a_mov t22 h1 (.c (fun t10 h2 => Q .normal ((a0::a1::a2::a3::a4::a5::a6::a7::a8::a9::t10::b1::b2::b3::b4::b5::b6::b7::b8::b9::d0::d1::t22::d3::[]), h2)) ())) ())) := by rw [awp_eq]; kernel_rfl
theorem w28_13 : awp X n c28_13 Q st = awp X n c28_14 (thenQ (awp X n c28_18 Q) Q) st := by rw [awp_eq]; kernel_rfl
theorem w28_9 : awp X n c28_9 Q st = awp X n c28_10 (thenQ (awp X n c28_13 Q) Q) st := by rw [awp_eq]; kernel_rfl
theorem w28_7 : awp X n c28_7 Q st = awp X n c28_8 (thenQ (awp X n c28_9 Q) Q) st := by rw [awp_eq]; kernel_rfl
theorem w28_6 : awp X n c28_6 Q st = ALoop X n c28_7 Q st := by rw [awp_eq]; kernel_rfl
theorem w28_5 : awp X n c28_5 Q st = awp X n c28_6 (blockQ 0 Q) st := by rw [awp_eq]; kernel_rfl
theorem w28_3 : awp X n c28_3 Q st = awp X n c28_4 (thenQ (awp X n c28_5 Q) Q) st := by rw [awp_eq]; kernel_rfl
noncomputable def c28_19 : Code := cr c28_2
noncomputable def c28_20 : Code := cl c28_19
theorem w28_20 : awp X n c28_20 Q ((a0::a1::a2::a3::a4::a5::a6::a7::a8::a9::b0::b1::b2::b3::b4::b5::b6::b7::b8::b9::d0::d1::d2::d3::[]), h) = (a_mov a0 h (.c (fun t23 h1 => a_mov t23 h1 (.c (fun t6 h2 => Q .normal ((a0::a1::a2::a3::a4::a5::t6::a7::a8::a9::b0::b1::b2::b3::b4::b5::b6::b7::b8::b9::d0::d1::d2::t23::[]), h2)) ())) ())) := by rw [awp_eq]; kernel_rfl
noncomputable def c28_21 : Code := cr c28_19
theorem w28_21 : awp X n c28_21 Q st = Q .ret st := by rw [awp_eq]; kernel_rfl
theorem w28_19 : awp X n c28_19 Q st = awp X n c28_20 (thenQ (awp X n c28_21 Q) Q) st := by rw [awp_eq]; kernel_rfl
theorem w28_2 : awp X n c28_2 Q st = awp X n c28_3 (thenQ (awp X n c28_19 Q) Q) st := by rw [awp_eq]; kernel_rfl
theorem w28_0 : awp X n c28_0 Q st = awp X n c28_1 (thenQ (awp X n c28_2 Q) Q) st := by rw [awp_eq]; kernel_rfl
theorem q28_ret : retQ X Tryd.f28 K .ret ((a0::a1::a2::a3::a4::a5::a6::a7::a8::a9::b0::b1::b2::b3::b4::b5::b6::b7::b8::b9::d0::d1::d2::d3::[]), h) = (K.K a6 h) := by kernel_rfl
theorem q28_normal : retQ X Tryd.f28 K .normal ((a0::a1::a2::a3::a4::a5::a6::a7::a8::a9::b0::b1::b2::b3::b4::b5::b6::b7::b8::b9::d0::d1::d2::d3::[]), h) = (K.K a6 h) := by kernel_rfl
theorem i28 (H : awp X h.length c28_0 (retQ X Tryd.f28 K) ((a0::a1::a2::.bad::.bad::.bad::.bad::.bad::.bad::.bad::.bad::.bad::.bad::.bad::.bad::.bad::.bad::.bad::.bad::.bad::.bad::.bad::.bad::.bad::[]), h)) : ACall X 28 [a0, a1, a2] h K := acall_intro (fn := Tryd.f28) (by kernel_rfl) (by kernel_rfl) (by kernel_rfl) H
noncomputable def R28 := And.intro (And.intro (And.intro (And.intro (w28_1) (And.intro w28_4 w28_8)) (And.intro (w28_11) (And.intro w28_12 w28_10))) (And.intro (And.intro (w28_16) (And.intro w28_17 w28_15)) (And.intro (w28_14) (And.intro w28_18 w28_13)))) (And.intro (And.intro (And.intro (w28_9) (And.intro w28_7 w28_6)) (And.intro (w28_5) (And.intro w28_3 w28_20))) (And.intro (And.intro (w28_21) (And.intro w28_19 w28_2)) (And.intro (w28_0) (And.intro q28_ret q28_normal))))
/-! function 34: (*sindri/cursor.Cursor).Sub -/
noncomputable def c34_0 : Code := bodyOf Tryd.f34
noncomputable def c34_1 : Code := cl c34_0
theorem w34_1 : awp X n c34_1 Q ((a0::a1::a2::a3::a4::a5::a6::a7::a8::a9::b0::b1::b2::b3::b4::b5::[]), h) = (a_mov (.v (.pointer none)) h (.c (fun t4 h1 => Q .normal ((a0::a1::a2::a3::t4::a5::a6::a7::a8::a9::b0::b1::b2::b3::b4::b5::[]), h1)) ())) := by rw [awp_eq]; kernel_rfl
noncomputable def c34_2 : Code := cr c34_0
noncomputable def c34_3 : Code := cl c34_2
theorem w34_3 : awp X n c34_3 Q ((a0::a1::a2::a3::a4::a5::a6::a7::a8::a9::b0::b1::b2::b3::b4::b5::[]), h) = (a_mov a0 h (.c (fun t6 h1 => a_mov a1 h1 (.c (fun t7 h2 => ACall X 48 [t6, t7] h2 (.c (fun t8 h3 => ACall X 17 [t8] h3 (.c (fun t9 h4 => a_mov t9 h4 (.c (fun t5 h5 => Q .normal ((a0::a1::a2::a3::a4::t5::t6::t7::t8::t9::b0::b1::b2::b3::b4::b5::[]), h5)) ())) ())) ())) ())) ())) := by rw [awp_eq]; kernel_rfl
noncomputable def c34_4 : Code := cr c34_2
noncomputable def c34_5 : Code := cl c34_4
theorem w34_5 : awp X n c34_5 Q ((a0::a1::a2::a3::a4::a5::a6::a7::a8::a9::b0::b1::b2::b3::b4::b5::[]), h) = (a_mov a5 h (.c (fun t10 h1 => a_mov a0 h1 (.c (fun t11 h2 => ACall X 21 [t11] h2 (.c (fun t12 h3 => a_nilc t10 h3 (.c (fun t13 h4 => a_fa 3 t13 h4 (.c (fun t14 h5 => a_store 1 t14 t12 h5 (.c (fun _v5 h6 => Q .normal ((a0::a1::a2::a3::a4::a5::a6::a7::a8::a9::t10::t11::t12::t13::t14::b5::[]), h6)) ())) ())) ())) ())) ())) ())) := by rw [awp_eq]; kernel_rfl
noncomputable def c34_6 : Code := cr c34_4
noncomputable def c34_7 : Code := cl c34_6
theorem w34_7 : awp X n c34_7 Q ((a0::a1::a2::a3::a4::a5::a6::a7::a8::a9::b0::b1::b2::b3::b4::b5::[]), h) = (a_mov a5 h (.c (fun t15 h1 => a_mov t15 h1 (.c (fun t4 h2 => Q .normal ((a0::a1::a2::a3::t4::a5::a6::a7::a8::a9::b0::b1::b2::b3::b4::t15::[]), h2)) ())) ())) := by rw [awp_eq]; kernel_rfl
noncomputable def c34_8 : Code := cr c34_6
theorem w34_8 : awp X n c34_8 Q st = Q .ret st := by rw [awp_eq]; kernel_rfl
theorem w34_6 : awp X n c34_6 Q st = awp X n c34_7 (thenQ (awp X n c34_8 Q) Q) st := by rw [awp_eq]; kernel_rfl
theorem w34_4 : awp X n c34_4 Q st = awp X n c34_5 (thenQ (awp X n c34_6 Q) Q) st := by rw [awp_eq]; kernel_rfl
theorem w34_2 : awp X n c34_2 Q st = awp X n c34_3 (thenQ (awp X n c34_4 Q) Q) st := by rw [awp_eq]; kernel_rfl
theorem w34_0 : awp X n c34_0 Q st = awp X n c34_1 (thenQ (awp X n c34_2 Q) Q) st := by rw [awp_eq]; kernel_rfl
theorem q34_ret : retQ X Tryd.f34 K .ret ((a0::a1::a2::a3::a4::a5::a6::a7::a8::a9::b0::b1::b2::b3::b4::b5::[]), h) = (K.K a4 h) := by kernel_rfl
theorem q34_normal : retQ X Tryd.f34 K .normal ((a0::a1::a2::a3::a4::a5::a6::a7::a8::a9::b0::b1::b2::b3::b4::b5::[]), h) = (K.K a4 h) := by kernel_rfl
theorem i34 (H : awp X h.length c34_0 (retQ X Tryd.f34 K) ((a0::a1::.bad::.bad::.bad::.bad::.bad::.bad::.bad::.bad::.bad::.bad::.bad::.bad::.bad::.bad::[]), h)) : ACall X 34 [a0, a1] h K := acall_intro (fn := Tryd.f34) (by kernel_rfl) (by kernel_rfl) (by kernel_rfl) H
noncomputable def R34 := And.intro (And.intro (And.intro w34_1 w34_3) (And.intro (w34_5) (And.intro w34_7 w34_8))) (And.intro (And.intro (w34_6) (And.intro w34_4 w34_2)) (And.intro (w34_0) (And.intro q34_ret q34_normal)))
/-! function 35: (*sindri/cursor.Cursor).U16 -/
noncomputable def c35_0 : Code := bodyOf Tryd.f35
noncomputable def c35_1 : Code := cl c35_0
theorem w35_1 : awp X n c35_1 Q ([a0,a1,a2,a3,a4], h) = (a_mov (.v (.int .u64 0)) h (.c (fun t2 h1 => Q .normal ([a0,a1,t2,a3,a4], h1)) ())) := by rw [awp_eq]; kernel_rfl
noncomputable def c35_2 : Code := cr c35_0
noncomputable def c35_3 : Code := cl c35_2
theorem w35_3 : awp X n c35_3 Q ([a0,a1,a2,a3,a4], h) = (a_mov a0 h (.c (fun t3 h1 => ACall X 39 [t3, (.v (.int .i64 2))] h1 (.c (fun t4 h2 => a_mov t4 h2 (.c (fun t2 h3 => Q .normal ([a0,a1,t2,t3,t4], h3)) ())) ())) ())) := by rw [awp_eq]; kernel_rfl
noncomputable def c35_4 : Code := cr c35_2
theorem w35_4 : awp X n c35_4 Q st = Q .ret st := by rw [awp_eq]; kernel_rfl
theorem w35_2 : awp X n c35_2 Q st = awp X n c35_3 (thenQ (awp X n c35_4 Q) Q) st := by rw [awp_eq]; kernel_rfl
theorem w35_0 : awp X n c35_0 Q st = awp X n c35_1 (thenQ (awp X n c35_2 Q) Q) st := by rw [awp_eq]; kernel_rfl
theorem q35_ret : retQ X Tryd.f35 K .ret ([a0,a1,a2,a3,a4], h) = (K.K a2 h) := by kernel_rfl
theorem q35_normal : retQ X Tryd.f35 K .normal ([a0,a1,a2,a3,a4], h) = (K.K a2 h) := by kernel_rfl
theorem i35 (H : awp X h.length c35_0 (retQ X Tryd.f35 K) ([a0,.bad,.bad,.bad,.bad], h)) : ACall X 35 [a0] h K := acall_intro (fn := Tryd.f35) (by kernel_rfl) (by kernel_rfl) (by kernel_rfl) H
noncomputable def R35 := And.intro (And.intro (w35_1) (And.intro w35_3 w35_4)) (And.intro (And.intro w35_2 w35_0) (And.intro q35_ret q35_normal))
/-! function 36: (*sindri/cursor.Cursor).U8 -/
noncomputable def c36_0 : Code := bodyOf Tryd.f36
noncomputable def c36_1 : Code := cl c36_0
theorem w36_1 : awp X n c36_1 Q ([a0,a1,a2,a3,a4], h) = (a_mov (.v (.int .u64 0)) h (.c (fun t2 h1 => Q .normal ([a0,a1,t2,a3,a4], h1)) ())) := by rw [awp_eq]; kernel_rfl
noncomputable def c36_2 : Code := cr c36_0
noncomputable def c36_3 : Code := cl c36_2
theorem w36_3 : awp X n c36_3 Q ([a0,a1,a2,a3,a4], h) = (a_mov a0 h (.c (fun t3 h1 => ACall X 39 [t3, (.v (.int .i64 1))] h1 (.c (fun t4 h2 => a_mov t4 h2 (.c (fun t2 h3 => Q .normal ([a0,a1,t2,t3,t4], h3)) ())) ())) ())) := by rw [awp_eq]; kernel_rfl
noncomputable def c36_4 : Code := cr c36_2
theorem w36_4 : awp X n c36_4 Q st = Q .ret st := by rw [awp_eq]; kernel_rfl
theorem w36_2 : awp X n c36_2 Q st = awp X n c36_3 (thenQ (awp X n c36_4 Q) Q) st := by rw [awp_eq]; kernel_rfl
theorem w36_0 : awp X n c36_0 Q st = awp X n c36_1 (thenQ (awp X n c36_2 Q) Q) st := by rw [awp_eq]; kernel_rfl
theorem q36_ret : retQ X Tryd.f36 K .ret ([a0,a1,a2,a3,a4], h) = (K.K a2 h) := by kernel_rfl
theorem q36_normal : retQ X Tryd.f36 K .normal ([a0,a1,a2,a3,a4], h) = (K.K a2 h) := by kernel_rfl
theorem i36 (H : awp X h.length c36_0 (retQ X Tryd.f36 K) ([a0,.bad,.bad,.bad,.bad], h)) : ACall X 36 [a0] h K := acall_intro (fn := Tryd.f36) (by kernel_rfl) (by kernel_rfl) (by kernel_rfl) H
noncomputable def R36 := And.intro (And.intro (w36_1) (And.intro w36_3 w36_4)) (And.intro (And.intro w36_2 w36_0) (And.intro q36_ret q36_normal))
/-! function 37: (*sindri/cursor.Cursor).U64 -/
noncomputable def c37_0 : Code := bodyOf Tryd.f37
noncomputable def c37_1 : Code := cl c37_0
theorem w37_1 : awp X n c37_1 Q ([a0,a1,a2,a3,a4], h) = (a_mov (.v (.int .u64 0)) h (.c (fun t2 h1 => Q .normal ([a0,a1,t2,a3,a4], h1)) ())) := by rw [awp_eq]; kernel_rfl
noncomputable def c37_2 : Code := cr c37_0
noncomputable def c37_3 : Code := cl c37_2
theorem w37_3 : awp X n c37_3 Q ([a0,a1,a2,a3,a4], h) = (a_mov a0 h (.c (fun t3 h1 => ACall X 39 [t3, (.v (.int .i64 8))] h1 (.c (fun t4 h2 => a_mov t4 h2 (.c (fun t2 h3 => Q .normal ([a0,a1,t2,t3,t4], h3)) ())) ())) ())) := by rw [awp_eq]; kernel_rfl
noncomputable def c37_4 : Code := cr c37_2
theorem w37_4 : awp X n c37_4 Q st = Q .ret st := by rw [awp_eq]; kernel_rfl
theorem w37_2 : awp X n c37_2 Q st = awp X n c37_3 (thenQ (awp X n c37_4 Q) Q) st := by rw [awp_eq]; kernel_rfl
theorem w37_0 : awp X n c37_0 Q st = awp X n c37_1 (thenQ (awp X n c37_2 Q) Q) st := by rw [awp_eq]; kernel_rfl
theorem q37_ret : retQ X Tryd.f37 K .ret ([a0,a1,a2,a3,a4], h) = (K.K a2 h) := by kernel_rfl
theorem q37_normal : retQ X Tryd.f37 K .normal ([a0,a1,a2,a3,a4], h) = (K.K a2 h) := by kernel_rfl
theorem i37 (H : awp X h.length c37_0 (retQ X Tryd.f37 K) ([a0,.bad,.bad,.bad,.bad], h)) : ACall X 37 [a0] h K := acall_intro (fn := Tryd.f37) (by kernel_rfl) (by kernel_rfl) (by kernel_rfl) H
noncomputable def R37 := And.intro (And.intro (w37_1) (And.intro w37_3 w37_4)) (And.intro (And.intro w37_2 w37_0) (And.intro q37_ret q37_normal))
/-! function 39: (*sindri/cursor.Cursor).Uint -/
noncomputable def c39_0 : Code := bodyOf Tryd.f39
noncomputable def c39_1 : Code := cl c39_0
theorem w39_1 : awp X n c39_1 Q ((a0::a1::a2::a3::a4::a5::a6::a7::a8::a9::b0::b1::b2::b3::b4::b5::b6::b7::b8::b9::d0::d1::d2::d3::d4::d5::d6::d7::d8::[]), h) = (a_mov (.v (.int .u64 0)) h (.c (fun t4 h1 => Q .normal ((a0::a1::a2::a3::t4::a5::a6::a7::a8::a9::b0::b1::b2::b3::b4::b5::b6::b7::b8::b9::d0::d1::d2::d3::d4::d5::d6::d7::d8::[]), h1)) ())) := by rw [awp_eq]; kernel_rfl
noncomputable def c39_2 : Code := cr c39_0
noncomputable def c39_3 : Code := cl c39_2
theorem w39_3 : awp X n c39_3 Q ((a0::a1::a2::a3::a4::a5::a6::a7::a8::a9::b0::b1::b2::b3::b4::b5::b6::b7::b8::b9::d0::d1::d2::d3::d4::d5::d6::d7::d8::[]), h) = (a_mov (.v (.int .u64 0)) h (.c (fun t5 h1 => Q .normal ((a0::a1::a2::a3::a4::t5::a6::a7::a8::a9::b0::b1::b2::b3::b4::b5::b6::b7::b8::b9::d0::d1::d2::d3::d4::d5::d6::d7::d8::[]), h1)) ())) := by rw [awp_eq]; kernel_rfl
noncomputable def c39_4 : Code := cr c39_2
noncomputable def c39_5 : Code := cl c39_4
noncomputable def c39_6 : Code := cl c39_5
theorem w39_6 : awp X n c39_6 Q ((a0::a1::a2::a3::a4::a5::a6::a7::a8::a9::b0::b1::b2::b3::b4::b5::b6::b7::b8::b9::d0::d1::d2::d3::d4::d5::d6::d7::d8::[]), h) = (a_mov a0 h (.c (fun t8 h1 => a_mov a1 h1 (.c (fun t9 h2 => ACall X 45 [t9] h2 (.c (fun t10 h3 => a_cint .u64 t10 h3 (.c (fun t11 h4 => ACall X 48 [t8, t11] h4 (.c (fun t12 h5 => a_len t12 h5 (.c (fun t13 h6 => a_mov (.v (.int .i64 0)) h6 (.c (fun t14 h7 => Q .normal ((a0::a1::a2::a3::a4::a5::a6::a7::t8::t9::t10::t11::t12::t13::t14::b5::b6::b7::b8::b9::d0::d1::d2::d3::d4::d5::d6::d7::d8::[]), h7)) ())) ())) ())) ())) ())) ())) ())) := by rw [awp_eq]; kernel_rfl
noncomputable def c39_7 : Code := cr c39_5
noncomputable def c39_8 : Code := cl c39_7
noncomputable def c39_9 : Code := cl c39_8
noncomputable def c39_10 : Code := cl c39_9
theorem w39_10 : awp X n c39_10 Q ((a0::a1::a2::a3::a4::a5::a6::a7::a8::a9::b0::b1::b2::b3::b4::b5::b6::b7::b8::b9::d0::d1::d2::d3::d4::d5::d6::d7::d8::[]), h) = (a_bin .lss b4 b3 h (.c (fun t15 h1 => Q .normal ((a0::a1::a2::a3::a4::a5::a6::a7::a8::a9::b0::b1::b2::b3::b4::t15::b6::b7::b8::b9::d0::d1::d2::d3::d4::d5::d6::d7::d8::[]), h1)) ())) := by rw [awp_eq]; kernel_rfl
noncomputable def c39_11 : Code := cr c39_9
noncomputable def c39_12 : Code := cl c39_11
noncomputable def c39_13 : Code := cl c39_12
theorem w39_13 : awp X n c39_13 Q st = Q .normal st := by rw [awp_eq]; kernel_rfl
noncomputable def c39_14 : Code := cr c39_12
theorem w39_14 : awp X n c39_14 Q st = Q (.exit 0) st := by rw [awp_eq]; kernel_rfl
theorem w39_12 : awp X n c39_12 Q ((a0::a1::a2::a3::a4::a5::a6::a7::a8::a9::b0::b1::b2::b3::b4::b5::b6::b7::b8::b9::d0::d1::d2::d3::d4::d5::d6::d7::d8::[]), h) = a_cond b5 (awp X n c39_13 Q ((a0::a1::a2::a3::a4::a5::a6::a7::a8::a9::b0::b1::b2::b3::b4::b5::b6::b7::b8::b9::d0::d1::d2::d3::d4::d5::d6::d7::d8::[]), h)) (awp X n c39_14 Q ((a0::a1::a2::a3::a4::a5::a6::a7::a8::a9::b0::b1::b2::b3::b4::b5::b6::b7::b8::b9::d0::d1::d2::d3::d4::d5::d6::d7::d8::[]), h)) := by rw [awp_eq]; kernel_rfl
noncomputable def c39_15 : Code := cr c39_11
noncomputable def c39_16 : Code := cl c39_15
noncomputable def c39_17 : Code := cl c39_16
noncomputable def c39_18 : Code := cl c39_17
theorem w39_18 : awp X n c39_18 Q ((a0::a1::a2::a3::a4::a5::a6::a7::a8::a9::b0::b1::b2::b3::b4::b5::b6::b7::b8::b9::d0::d1::d2::d3::d4::d5::d6::d7::d8::[]), h) = (a_mov b4 h (.c (fun t16 h1 => a_ia 1 b2 b4 h1 (.c (fun t17 h2 => a_load 1 false t17 h2 (.c (fun t18 h3 => a_mov t16 h3 (.c (fun t6 h4 => a_mov t18 h4 (.c (fun t7 h5 => Q .normal ((a0::a1::a2::a3::a4::a5::t6::t7::a8::a9::b0::b1::b2::b3::b4::b5::t16::t17::t18::b9::d0::d1::d2::d3::d4::d5::d6::d7::d8::[]), h5)) ())) ())) ())) ())) ())) := by rw [awp_eq]; kernel_rfl
noncomputable def c39_19 : Code := cr c39_17
theorem w39_19 : awp X n c39_19 Q ((a0::a1::a2::a3::a4::a5::a6::a7::a8::a9::b0::b1::b2::b3::b4::b5::b6::b7::b8::b9::d0::d1::d2::d3::d4::d5::d6::d7::d8::[]), h) = (a_mov a5 h (.c (fun t19 h1 => a_mov a7 h1 (.c (fun t20 h2 => a_cint .u64 t20 h2 (.c (fun t21 h3 => a_mov a6 h3 (.c (fun t22 h4 => a_bin .mul (.v (.int .i64 8)) t22 h4 (.c (fun t23 h5 => a_cint .u64 t23 h5 (.c (fun t24 h6 => a_bin .shl t21 t24 h6 (.c (fun t25 h7 => a_bin .or t19 t25 h7 (.c (fun t26 h8 => a_mov t26 h8 (.c (fun t5 h9 => Q .normal ((a0::a1::a2::a3::a4::t5::a6::a7::a8::a9::b0::b1::b2::b3::b4::b5::b6::b7::b8::t19::t20::t21::t22::t23::t24::t25::t26::d7::d8::[]), h9)) ())) ())) ())) ())) ())) ())) ())) ())) ())) := by rw [awp_eq]; kernel_rfl
theorem w39_17 : awp X n c39_17 Q st = awp X n c39_18 (thenQ (awp X n c39_19 Q) Q) st := by rw [awp_eq]; kernel_rfl
theorem w39_16 : awp X n c39_16 Q st = awp X n c39_17 (blockQ 1 Q) st := by rw [awp_eq]; kernel_rfl
noncomputable def c39_20 : Code := cr c39_15
theorem w39_20 : awp X n c39_20 Q ((a0::a1::a2::a3::a4::a5::a6::a7::a8::a9::b0::b1::b2::b3::b4::b5::b6::b7::b8::b9::d0::d1::d2::d3::d4::d5::d6::d7::d8::[]), h) = (a_bin .add b4 (.v (.int .i64 1)) h (.c (fun t27 h1 => a_mov t27 h1 (.c (fun t14 h2 => Q .normal ((a0::a1::a2::a3::a4::a5::a6::a7::a8::a9::b0::b1::b2::b3::t14::b5::b6::b7::b8::b9::d0::d1::d2::d3::d4::d5::d6::t27::d8::[]), h2)) ())) ())) := by rw [awp_eq]; kernel_rfl
theorem w39_15 : awp X n c39_15 Q st = awp X n c39_16 (thenQ (awp X n c39_20 Q) Q) st := by rw [awp_eq]; kernel_rfl
theorem w39_11 : awp X n c39_11 Q st = awp X n c39_12 (thenQ (awp X n c39_15 Q) Q) st := by rw [awp_eq]; kernel_rfl
theorem w39_9 : awp X n c39_9 Q st = awp X n c39_10 (thenQ (awp X n c39_11 Q) Q) st := by rw [awp_eq]; kernel_rfl
theorem w39_8 : awp X n c39_8 Q st = ALoop X n c39_9 Q st := by rw [awp_eq]; kernel_rfl
theorem w39_7 : awp X n c39_7 Q st = awp X n c39_8 (blockQ 0 Q) st := by rw [awp_eq]; kernel_rfl
theorem w39_5 : awp X n c39_5 Q st = awp X n c39_6 (thenQ (awp X n c39_7 Q) Q) st := by rw [awp_eq]; kernel_rfl
noncomputable def c39_21 : Code := cr c39_4
noncomputable def c39_22 : Code := cl c39_21
theorem w39_22 : awp X n c39_22 Q ((a0::a1::a2::a3::a4::a5::a6::a7::a8::a9::b0::b1::b2::b3::b4::b5::b6::b7::b8::b9::d0::d1::d2::d3::d4::d5::d6::d7::d8::[]), h) = (a_mov a5 h (.c (fun t28 h1 => a_mov t28 h1 (.c (fun t4 h2 => Q .normal ((a0::a1::a2::a3::t4::a5::a6::a7::a8::a9::b0::b1::b2::b3::b4::b5::b6::b7::b8::b9::d0::d1::d2::d3::d4::d5::d6::d7::t28::[]), h2)) ())) ())) := by rw [awp_eq]; kernel_rfl
noncomputable def c39_23 : Code := cr c39_21
theorem w39_23 : awp X n c39_23 Q st = Q .ret st := by rw [awp_eq]; kernel_rfl
theorem w39_21 : awp X n c39_21 Q st = awp X n c39_22 (thenQ (awp X n c39_23 Q) Q) st := by rw [awp_eq]; kernel_rfl
theorem w39_4 : awp X n c39_4 Q st = awp X n c39_5 (thenQ (awp X n c39_21 Q) Q) st := by rw [awp_eq]; kernel_rfl
theorem w39_2 : awp X n c39_2 Q st = awp X n c39_3 (thenQ (awp X n c39_4 Q) Q) st := by rw [awp_eq]; kernel_rfl
theorem w39_0 : awp X n c39_0 Q st = awp X n c39_1 (thenQ (awp X n c39_2 Q) Q) st := by rw [awp_eq]; kernel_rfl
theorem q39_ret : retQ X Tryd.f39 K .ret ((a0::a1::a2::a3::a4::a5::a6::a7::a8::a9::b0::b1::b2::b3::b4::b5::b6::b7::b8::b9::d0::d1::d2::d3::d4::d5::d6::d7::d8::[]), h) = (K.K a4 h) := by kernel_rfl
theorem q39_normal : retQ X Tryd.f39 K .normal ((a0::a1::a2::a3::a4::a5::a6::a7::a8::a9::b0::b1::b2::b3::b4::b5::b6::b7::b8::b9::d0::d1::d2::d3::d4::d5::d6::d7::d8::[]), h) = (K.K a4 h) := by kernel_rfl
theorem i39 (H : awp X h.length c39_0 (retQ X Tryd.f39 K) ((a0::a1::.bad::.bad::.bad::.bad::.bad::.bad::.bad::.bad::.bad::.bad::.bad::.bad::.bad::.bad::.bad::.bad::.bad::.bad::.bad::.bad::.bad::.bad::.bad::.bad::.bad::.bad::.bad::[]), h)) : ACall X 39 [a0, a1] h K := acall_intro (fn := Tryd.f39) (by kernel_rfl) (by kernel_rfl) (by kernel_rfl) H
noncomputable def R39 := And.intro (And.intro (And.intro (And.intro (w39_1) (And.intro w39_3 w39_6)) (And.intro (w39_10) (And.intro w39_13 w39_14))) (And.intro (And.intro (w39_12) (And.intro w39_18 w39_19)) (And.intro (And.intro w39_17 w39_16) (And.intro w39_20 w39_15)))) (And.intro (And.intro (And.intro (w39_11) (And.intro w39_9 w39_8)) (And.intro (w39_7) (And.intro w39_5 w39_22))) (And.intro (And.intro (w39_23) (And.intro w39_21 w39_4)) (And.intro (And.intro w39_2 w39_0) (And.intro q39_ret q39_normal))))
/-! function 41: (*sindri/cursor.Cursor).Fail -/
noncomputable def c41_0 : Code := bodyOf Tryd.f41
noncomputable def c41_1 : Code := cl c41_0
theorem w41_1 : awp X n c41_1 Q ((a0::a1::a2::a3::a4::a5::a6::a7::a8::a9::b0::[]), h) = (a_mov a0 h (.c (fun t4 h1 => ACall X 21 [t4] h1 (.c (fun t5 h2 => a_bin .eql t5 (.v (.int .i64 0)) h2 (.c (fun t6 h3 => Q .normal ((a0::a1::a2::a3::t4::t5::t6::a7::a8::a9::b0::[]), h3)) ())) ())) ())) := by rw [awp_eq]; kernel_rfl
noncomputable def c41_2 : Code := cr c41_0
noncomputable def c41_3 : Code := cl c41_2
theorem w41_3 : awp X n c41_3 Q ((a0::a1::a2::a3::a4::a5::a6::a7::a8::a9::b0::[]), h) = (a_mov a0 h (.c (fun t7 h1 => a_mov a1 h1 (.c (fun t8 h2 => a_nilc t7 h2 (.c (fun t9 h3 => a_fa 3 t9 h3 (.c (fun t10 h4 => a_store 1 t10 t8 h4 (.c (fun _v4 h5 => Q .normal ((a0::a1::a2::a3::a4::a5::a6::t7::t8::t9::t10::[]), h5)) ())) ())) ())) ())) ())) := by rw [awp_eq]; kernel_rfl
noncomputable def c41_4 : Code := cr c41_2
theorem w41_4 : awp X n c41_4 Q st = Q .normal st := by rw [awp_eq]; kernel_rfl
theorem w41_2 : awp X n c41_2 Q ((a0::a1::a2::a3::a4::a5::a6::a7::a8::a9::b0::[]), h) = a_cond a6 (awp X n c41_3 Q ((a0::a1::a2::a3::a4::a5::a6::a7::a8::a9::b0::[]), h)) (awp X n c41_4 Q ((a0::a1::a2::a3::a4::a5::a6::a7::a8::a9::b0::[]), h)) := by rw [awp_eq]; kernel_rfl
theorem w41_0 : awp X n c41_0 Q st = awp X n c41_1 (thenQ (awp X n c41_2 Q) Q) st := by rw [awp_eq]; kernel_rfl
theorem q41_ret : retQ X Tryd.f41 K .ret ((a0::a1::a2::a3::a4::a5::a6::a7::a8::a9::b0::[]), h) = (K.K (.t []) h) := by kernel_rfl
theorem q41_normal : retQ X Tryd.f41 K .normal ((a0::a1::a2::a3::a4::a5::a6::a7::a8::a9::b0::[]), h) = (K.K (.t []) h) := by kernel_rfl
theorem i41 (H : awp X h.length c41_0 (retQ X Tryd.f41 K) ((a0::a1::.bad::.bad::.bad::.bad::.bad::.bad::.bad::.bad::.bad::[]), h)) : ACall X 41 [a0, a1] h K := acall_intro (fn := Tryd.f41) (by kernel_rfl) (by kernel_rfl) (by kernel_rfl) H
noncomputable def R41 := And.intro (And.intro (w41_1) (And.intro w41_3 w41_4)) (And.intro (And.intro w41_2 w41_0) (And.intro q41_ret q41_normal))
/-! function 43: (*sindri/sindriref01.C).Uint -/
noncomputable def c43_0 : Code := bodyOf Tryd.f43
noncomputable def c43_1 : Code := cl c43_0
theorem w43_1 : awp X n c43_1 Q ((a0::a1::a2::a3::a4::a5::a6::a7::a8::a9::b0::b1::b2::b3::b4::b5::b6::b7::b8::b9::d0::d1::d2::d3::d4::d5::d6::d7::d8::d9::e0::e1::e2::e3::e4::e5::e6::e7::e8::e9::f0::f1::f2::f3::f4::f5::f6::f7::f8::f9::g0::g1::g2::g3::g4::g5::g6::g7::g8::g9::[]), h) = (a_mov (.v (.int .u64 0)) h (.c (fun t4 h1 => Q .normal ((a0::a1::a2::a3::t4::a5::a6::a7::a8::a9::b0::b1::b2::b3::b4::b5::b6::b7::b8::b9::d0::d1::d2::d3::d4::d5::d6::d7::d8::d9::e0::e1::e2::e3::e4::e5::e6::e7::e8::e9::f0::f1::f2::f3::f4::f5::f6::f7::f8::f9::g0::g1::g2::g3::g4::g5::g6::g7::g8::g9::[]), h1)) ())) := by rw [awp_eq]; kernel_rfl
noncomputable def c43_2 : Code := cr c43_0
noncomputable def c43_3 : Code := cl c43_2
theorem w43_3 : awp X n c43_3 Q ((a0::a1::a2::a3::a4::a5::a6::a7::a8::a9::b0::b1::b2::b3::b4::b5::b6::b7::b8::b9::d0::d1::d2::d3::d4::d5::d6::d7::d8::d9::e0::e1::e2::e3::e4::e5::e6::e7::e8::e9::f0::f1::f2::f3::f4::f5::f6::f7::f8::f9::g0::g1::g2::g3::g4::g5::g6::g7::g8::g9::[]), h) = (a_mov a1 h (.c (fun t7 h1 => ACall X 47 [t7] h1 (.c (fun t8 h2 => a_mov t8 h2 (.c (fun t1 h3 => Q .normal ((a0::t1::a2::a3::a4::a5::a6::t7::t8::a9::b0::b1::b2::b3::b4::b5::b6::b7::b8::b9::d0::d1::d2::d3::d4::d5::d6::d7::d8::d9::e0::e1::e2::e3::e4::e5::e6::e7::e8::e9::f0::f1::f2::f3::f4::f5::f6::f7::f8::f9::g0::g1::g2::g3::g4::g5::g6::g7::g8::g9::[]), h3)) ())) ())) ())) := by rw [awp_eq]; kernel_rfl
noncomputable def c43_4 : Code := cr c43_2
noncomputable def c43_5 : Code := cl c43_4
noncomputable def c43_6 : Code := cl c43_5
theorem w43_6 : awp X n c43_6 Q ((a0::a1::a2::a3::a4::a5::a6::a7::a8::a9::b0::b1::b2::b3::b4::b5::b6::b7::b8::b9::d0::d1::d2::d3::d4::d5::d6::d7::d8::d9::e0::e1::e2::e3::e4::e5::e6::e7::e8::e9::f0::f1::f2::f3::f4::f5::f6::f7::f8::f9::g0::g1::g2::g3::g4::g5::g6::g7::g8::g9::[]), h) = (a_mov a0 h (.c (fun t9 h1 => a_nilc t9 h1 (.c (fun t10 h2 => a_fa 2 t10 h2 (.c (fun t11 h3 => a_load 1 false t11 h3 (.c (fun t12 h4 => a_bin .eql t12 (.v (.int .i64 0)) h4 (.c (fun t13 h5 => a_mov t13 h5 (.c (fun t14 h6 => a_on t14 true (fun k => a_mov a1 h6 k) h6 (.c (fun t15 h7 => a_on t14 true (fun k => a_mov a0 h7 k) h7 (.c (fun t16 h8 => a_on t14 true (fun k => ACall X 44 [t16] h8 k) h8 (.c (fun t17 h9 => a_on t14 true (fun k => a_bin .gtr t15 t17 h9 k) h9 (.c (fun t18 h10 => a_pick t14 t18 (.v (.bool false)) h10 (.c (fun t19 h11 => Q .normal ((a0::a1::a2::a3::a4::a5::a6::a7::a8::t9::t10::t11::t12::t13::t14::t15::t16::t17::t18::t19::d0::d1::d2::d3::d4::d5::d6::d7::d8::d9::e0::e1::e2::e3::e4::e5::e6::e7::e8::e9::f0::f1::f2::f3::f4::f5::f6::f7::f8::f9::g0::g1::g2::g3::g4::g5::g6::g7::g8::g9::[]), h11)) ())) ())) ())) ())) ())) ())) ())) ())) ())) ())) ())) := by rw [awp_eq]; kernel_rfl
noncomputable def c43_7 : Code := cr c43_5
noncomputable def c43_8 : Code := cl c43_7
theorem w43_8 : awp X n c43_8 Q ((a0::a1::a2::a3::a4::a5::a6::a7::a8::a9::b0::b1::b2::b3::b4::b5::b6::b7::b8::b9::d0::d1::d2::d3::d4::d5::d6::d7::d8::d9::e0::e1::e2::e3::e4::e5::e6::e7::e8::e9::f0::f1::f2::f3::f4::f5::f6::f7::f8::f9::g0::g1::g2::g3::g4::g5::g6::g7::g8::g9::[]), h) = (a_mov a0 h (.c (fun t20 h1 => a_nilc t20 h1 (.c (fun t21 h2 => a_fa 2 t21 h2 (.c (fun t22 h3 => a_store 1 t22 (.v (.int .i64 10)) h3 (.c (fun _v3 h4 => Q .normal ((a0::a1::a2::a3::a4::a5::a6::a7::a8::a9::b0::b1::b2::b3::b4::b5::b6::b7::b8::b9::t20::t21::t22::d3::d4::d5::d6::d7::d8::d9::e0::e1::e2::e3::e4::e5::e6::e7::e8::e9::f0::f1::f2::f3::f4::f5::f6::f7::f8::f9::g0::g1::g2::g3::g4::g5::g6::g7::g8::g9::[]), h4)) ())) ())) ())) ())) := by rw [awp_eq]; kernel_rfl
noncomputable def c43_9 : Code := cr c43_7
theorem w43_9 : awp X n c43_9 Q st = Q .normal st := by rw [awp_eq]; kernel_rfl
theorem w43_7 : awp X n c43_7 Q ((a0::a1::a2::a3::a4::a5::a6::a7::a8::a9::b0::b1::b2::b3::b4::b5::b6::b7::b8::b9::d0::d1::d2::d3::d4::d5::d6::d7::d8::d9::e0::e1::e2::e3::e4::e5::e6::e7::e8::e9::f0::f1::f2::f3::f4::f5::f6::f7::f8::f9::g0::g1::g2::g3::g4::g5::g6::g7::g8::g9::[]), h) = a_cond b9 (awp X n c43_8 Q ((a0::a1::a2::a3::a4::a5::a6::a7::a8::a9::b0::b1::b2::b3::b4::b5::b6::b7::b8::b9::d0::d1::d2::d3::d4::d5::d6::d7::d8::d9::e0::e1::e2::e3::e4::e5::e6::e7::e8::e9::f0::f1::f2::f3::f4::f5::f6::f7::f8::f9::g0::g1::g2::g3::g4::g5::g6::g7::g8::g9::[]), h)) (awp X n c43_9 Q ((a0::a1::a2::a3::a4::a5::a6::a7::a8::a9::b0::b1::b2::b3::b4::b5::b6::b7::b8::b9::d0::d1::d2::d3::d4::d5::d6::d7::d8::d9::e0::e1::e2::e3::e4::e5::e6::e7::e8::e9::f0::f1::f2::f3::f4::f5::f6::f7::f8::f9::g0::g1::g2::g3::g4::g5::g6::g7::g8::g9::[]), h)) := by rw [awp_eq]; kernel_rfl
theorem w43_5 : awp X n c43_5 Q st = awp X n c43_6 (thenQ (awp X n c43_7 Q) Q) st := by rw [awp_eq]; kernel_rfl
noncomputable def c43_10 : Code := cr c43_4
noncomputable def c43_11 : Code := cl c43_10
noncomputable def c43_12 : Code := cl c43_11
theorem w43_12 : awp X n c43_12 Q ((a0::a1::a2::a3::a4::a5::a6::a7::a8::a9::b0::b1::b2::b3::b4::b5::b6::b7::b8::b9::d0::d1::d2::d3::d4::d5::d6::d7::d8::d9::e0::e1::e2::e3::e4::e5::e6::e7::e8::e9::f0::f1::f2::f3::f4::f5::f6::f7::f8::f9::g0::g1::g2::g3::g4::g5::g6::g7::g8::g9::[]), h) = (a_mov a0 h (.c (fun t23 h1 => a_nilc t23 h1 (.c (fun t24 h2 => a_fa 2 t24 h2 (.c (fun t25 h3 => a_load 1 false t25 h3 (.c (fun t26 h4 => a_bin .neq t26 (.v (.int .i64 0)) h4 (.c (fun t27 h5 => Q .normal ((a0::a1::a2::a3::a4::a5::a6::a7::a8::a9::b0::b1::b2::b3::b4::b5::b6::b7::b8::b9::d0::d1::d2::t23::t24::t25::t26::t27::d8::d9::e0::e1::e2::e3::e4::e5::e6::e7::e8::e9::f0::f1::f2::f3::f4::f5::f6::f7::f8::f9::g0::g1::g2::g3::g4::g5::g6::g7::g8::g9::[]), h5)) ())) ())) ())) ())) ())) := by rw [awp_eq]; kernel_rfl
noncomputable def c43_13 : Code := cr c43_11
noncomputable def c43_14 : Code := cl c43_13
noncomputable def c43_15 : Code := cl c43_14
theorem w43_15 : awp X n c43_15 Q ((a0::a1::a2::a3::a4::a5::a6::a7::a8::a9::b0::b1::b2::b3::b4::b5::b6::b7::b8::b9::d0::d1::d2::d3::d4::d5::d6::d7::d8::d9::e0::e1::e2::e3::e4::e5::e6::e7::e8::e9::f0::f1::f2::f3::f4::f5::f6::f7::f8::f9::g0::g1::g2::g3::g4::g5::g6::g7::g8::g9::[]), h) = (a_mov (.v (.int .u64 0)) h (.c (fun t4 h1 => Q .normal ((a0::a1::a2::a3::t4::a5::a6::a7::a8::a9::b0::b1::b2::b3::b4::b5::b6::b7::b8::b9::d0::d1::d2::d3::d4::d5::d6::d7::d8::d9::e0::e1::e2::e3::e4::e5::e6::e7::e8::e9::f0::f1::f2::f3::f4::f5::f6::f7::f8::f9::g0::g1::g2::g3::g4::g5::g6::g7::g8::g9::[]), h1)) ())) := by rw [awp_eq]; kernel_rfl
noncomputable def c43_16 : Code := cr c43_14
theorem w43_16 : awp X n c43_16 Q st = Q .ret st := by rw [awp_eq]; kernel_rfl
theorem w43_14 : awp X n c43_14 Q st = awp X n c43_15 (thenQ (awp X n c43_16 Q) Q) st := by rw [awp_eq]; kernel_rfl
noncomputable def c43_17 : Code := cr c43_13
theorem w43_17 : awp X n c43_17 Q st = Q .normal st := by rw [awp_eq]; kernel_rfl
theorem w43_13 : awp X n c43_13 Q ((a0::a1::a2::a3::a4::a5::a6::a7::a8::a9::b0::b1::b2::b3::b4::b5::b6::b7::b8::b9::d0::d1::d2::d3::d4::d5::d6::d7::d8::d9::e0::e1::e2::e3::e4::e5::e6::e7::e8::e9::f0::f1::f2::f3::f4::f5::f6::f7::f8::f9::g0::g1::g2::g3::g4::g5::g6::g7::g8::g9::[]), h) = a_cond d7 (awp X n c43_14 Q ((a0::a1::a2::a3::a4::a5::a6::a7::a8::a9::b0::b1::b2::b3::b4::b5::b6::b7::b8::b9::d0::d1::d2::d3::d4::d5::d6::d7::d8::d9::e0::e1::e2::e3::e4::e5::e6::e7::e8::e9::f0::f1::f2::f3::f4::f5::f6::f7::f8::f9::g0::g1::g2::g3::g4::g5::g6::g7::g8::g9::[]), h)) (awp X n c43_17 Q ((a0::a1::a2::a3::a4::a5::a6::a7::a8::a9::b0::b1::b2::b3::b4::b5::b6::b7::b8::b9::d0::d1::d2::d3::d4::d5::d6::d7::d8::d9::e0::e1::e2::e3::e4::e5::e6::e7::e8::e9::f0::f1::f2::f3::f4::f5::f6::f7::f8::f9::g0::g1::g2::g3::g4::g5::g6::g7::g8::g9::[]), h)) := by rw [awp_eq]; kernel_rfl
theorem w43_11 : awp X n c43_11 Q st = awp X n c43_12 (thenQ (awp X n c43_13 Q) Q) st := by rw [awp_eq]; kernel_rfl
noncomputable def c43_18 : Code := cr c43_10
noncomputable def c43_19 : Code := cl c43_18
theorem w43_19 : awp X n c43_19 Q ((a0::a1::a2::a3::a4::a5::a6::a7::a8::a9::b0::b1::b2::b3::b4::b5::b6::b7::b8::b9::d0::d1::d2::d3::d4::d5::d6::d7::d8::d9::e0::e1::e2::e3::e4::e5::e6::e7::e8::e9::f0::f1::f2::f3::f4::f5::f6::f7::f8::f9::g0::g1::g2::g3::g4::g5::g6::g7::g8::g9::[]), h) = (a_mov (.v (.int .u64 0)) h (.c (fun t5 h1 => Q .normal ((a0::a1::a2::a3::a4::t5::a6::a7::a8::a9::b0::b1::b2::b3::b4::b5::b6::b7::b8::b9::d0::d1::d2::d3::d4::d5::d6::d7::d8::d9::e0::e1::e2::e3::e4::e5::e6::e7::e8::e9::f0::f1::f2::f3::f4::f5::f6::f7::f8::f9::g0::g1::g2::g3::g4::g5::g6::g7::g8::g9::[]), h1)) ())) := by rw [awp_eq]; kernel_rfl
noncomputable def c43_20 : Code := cr c43_18
noncomputable def c43_21 : Code := cl c43_20
noncomputable def c43_22 : Code := cl c43_21
theorem w43_22 : awp X n c43_22 Q ((a0::a1::a2::a3::a4::a5::a6::a7::a8::a9::b0::b1::b2::b3::b4::b5::b6::b7::b8::b9::d0::d1::d2::d3::d4::d5::d6::d7::d8::d9::e0::e1::e2::e3::e4::e5::e6::e7::e8::e9::f0::f1::f2::f3::f4::f5::f6::f7::f8::f9::g0::g1::g2::g3::g4::g5::g6::g7::g8::g9::[]), h) = (a_mov a1 h (.c (fun t28 h1 => a_bin .sub t28 (.v (.int .i64 1)) h1 (.c (fun t29 h2 => a_mov t29 h2 (.c (fun t6 h3 => Q .normal ((a0::a1::a2::a3::a4::a5::t6::a7::a8::a9::b0::b1::b2::b3::b4::b5::b6::b7::b8::b9::d0::d1::d2::d3::d4::d5::d6::d7::t28::t29::e0::e1::e2::e3::e4::e5::e6::e7::e8::e9::f0::f1::f2::f3::f4::f5::f6::f7::f8::f9::g0::g1::g2::g3::g4::g5::g6::g7::g8::g9::[]), h3)) ())) ())) ())) := by rw [awp_eq]; kernel_rfl
noncomputable def c43_23 : Code := cr c43_21
noncomputable def c43_24 : Code := cl c43_23
noncomputable def c43_25 : Code := cl c43_24
noncomputable def c43_26 : Code := cl c43_25
noncomputable def c43_27 : Code := cl c43_26
theorem w43_27 : awp X n c43_27 Q ((a0::a1::a2::a3::a4::a5::a6::a7::a8::a9::b0::b1::b2::b3::b4::b5::b6::b7::b8::b9::d0::d1::d2::d3::d4::d5::d6::d7::d8::d9::e0::e1::e2::e3::e4::e5::e6::e7::e8::e9::f0::f1::f2::f3::f4::f5::f6::f7::f8::f9::g0::g1::g2::g3::g4::g5::g6::g7::g8::g9::[]), h) = (a_mov a6 h (.c (fun t30 h1 => a_bin .geq t30 (.v (.int .i64 0)) h1 (.c (fun t31 h2 => Q .normal ((a0::a1::a2::a3::a4::a5::a6::a7::a8::a9::b0::b1::b2::b3::b4::b5::b6::b7::b8::b9::d0::d1::d2::d3::d4::d5::d6::d7::d8::d9::t30::t31::e2::e3::e4::e5::e6::e7::e8::e9::f0::f1::f2::f3::f4::f5::f6::f7::f8::f9::g0::g1::g2::g3::g4::g5::g6::g7::g8::g9::[]), h2)) ())) ())) := by rw [awp_eq]; kernel_rfl
noncomputable def c43_28 : Code := cr c43_26
noncomputable def c43_29 : Code := cl c43_28
theorem w43_29 : awp X n c43_29 Q st = Q .normal st := by rw [awp_eq]; kernel_rfl
noncomputable def c43_30 : Code := cr c43_28
theorem w43_30 : awp X n c43_30 Q st = Q (.exit 0) st := by rw [awp_eq]; kernel_rfl
theorem w43_28 : awp X n c43_28 Q ((a0::a1::a2::a3::a4::a5::a6::a7::a8::a9::b0::b1::b2::b3::b4::b5::b6::b7::b8::b9::d0::d1::d2::d3::d4::d5::d6::d7::d8::d9::e0::e1::e2::e3::e4::e5::e6::e7::e8::e9::f0::f1::f2::f3::f4::f5::f6::f7::f8::f9::g0::g1::g2::g3::g4::g5::g6::g7::g8::g9::[]), h) = a_cond e1 (awp X n c43_29 Q ((a0::a1::a2::a3::a4::a5::a6::a7::a8::a9::b0::b1::b2::b3::b4::b5::b6::b7::b8::b9::d0::d1::d2::d3::d4::d5::d6::d7::d8::d9::e0::e1::e2::e3::e4::e5::e6::e7::e8::e9::f0::f1::f2::f3::f4::f5::f6::f7::f8::f9::g0::g1::g2::g3::g4::g5::g6::g7::g8::g9::[]), h)) (awp X n c43_30 Q ((a0::a1::a2::a3::a4::a5::a6::a7::a8::a9::b0::b1::b2::b3::b4::b5::b6::b7::b8::b9::d0::d1::d2::d3::d4::d5::d6::d7::d8::d9::e0::e1::e2::e3::e4::e5::e6::e7::e8::e9::f0::f1::f2::f3::f4::f5::f6::f7::f8::f9::g0::g1::g2::g3::g4::g5::g6::g7::g8::g9::[]), h)) := by rw [awp_eq]; kernel_rfl
theorem w43_26 : awp X n c43_26 Q st = awp X n c43_27 (thenQ (awp X n c43_28 Q) Q) st := by rw [awp_eq]; kernel_rfl
noncomputable def c43_31 : Code := cr c43_25
noncomputable def c43_32 : Code := cl c43_31
noncomputable def c43_33 : Code := cl c43_32
theorem w43_33 : awp X n c43_33 Q ((a0::a1::a2::a3::a4::a5::a6::a7::a8::a9::b0::b1::b2::b3::b4::b5::b6::b7::b8::b9::d0::d1::d2::d3::d4::d5::d6::d7::d8::d9::e0::e1::e2::e3::e4::e5::e6::e7::e8::e9::f0::f1::f2::f3::f4::f5::f6::f7::f8::f9::g0::g1::g2::g3::g4::g5::g6::g7::g8::g9::[]), h) = (a_mov a5 h (.c (fun t34 h1 => a_bin .mul t34 (.v (.int .u64 256)) h1 (.c (fun t35 h2 => a_mov a0 h2 (.c (fun t36 h3 => a_nilc t36 h3 (.c (fun t37 h4 => a_fa 0 t37 h4 (.c (fun t38 h5 => a_load 1 false t38 h5 (.c (fun t39 h6 => a_mov a0 h6 (.c (fun t40 h7 => a_nilc t40 h7 (.c (fun t41 h8 => a_fa 1 t41 h8 (.c (fun t42 h9 => a_load 1 false t42 h9 (.c (fun t43 h10 => a_mov a6 h10 (.c (fun t44 h11 => a_bin .add t43 t44 h11 (.c (fun t45 h12 => a_ia 1 t39 t45 h12 (.c (fun t46 h13 => a_load 1 false t46 h13 (.c (fun t47 h14 => a_cint .u64 t47 h14 (.c (fun t48 h15 => a_bin .add t35 t48 h15 (.c (fun t49 h16 => a_mov t49 h16 (.c (fun t5 h17 => Q .normal ((a0::a1::a2::a3::a4::t5::a6::a7::a8::a9::b0::b1::b2::b3::b4::b5::b6::b7::b8::b9::d0::d1::d2::d3::d4::d5::d6::d7::d8::d9::e0::e1::e2::e3::t34::t35::t36::t37::t38::t39::t40::t41::t42::t43::t44::t45::t46::t47::t48::t49::g0::g1::g2::g3::g4::g5::g6::g7::g8::g9::[]), h17)) ())) ())) ())) ())) ())) ())) ())) ())) ())) ())) ())) ())) ())) ())) ())) ())) ())) := by rw [awp_eq]; kernel_rfl
theorem w43_32 : awp X n c43_32 Q st = awp X n c43_33 (blockQ 1 Q) st := by rw [awp_eq]; kernel_rfl
noncomputable def c43_34 : Code := cr c43_31
theorem w43_34 : awp X n c43_34 Q ((a0::a1::a2::a3::a4::a5::a6::a7::a8::a9::b0::b1::b2::b3::b4::b5::b6::b7::b8::b9::d0::d1::d2::d3::d4::d5::d6::d7::d8::d9::e0::e1::e2::e3::e4::e5::e6::e7::e8::e9::f0::f1::f2::f3::f4::f5::f6::f7::f8::f9::g0::g1::g2::g3::g4::g5::g6::g7::g8::g9::[]), h) = (a_mov a6 h (.c (fun t32 h1 => a_bin .sub t32 (.v (.int .i64 1)) h1 (.c (fun t33 h2 => a_mov t33 h2 (.c (fun t6 h3 => Q .normal ((a0::a1::a2::a3::a4::a5::t6::a7::a8::a9::b0::b1::b2::b3::b4::b5::b6::b7::b8::b9::d0::d1::d2::d3::d4::d5::d6::d7::d8::d9::e0::e1::t32::t33::e4::e5::e6::e7::e8::e9::f0::f1::f2::f3::f4::f5::f6::f7::f8::f9::g0::g1::g2::g3::g4::g5::g6::g7::g8::g9::[]), h3)) ())) ())) ())) := by rw [awp_eq]; kernel_rfl
theorem w43_31 : awp X n c43_31 Q st = awp X n c43_32 (thenQ (awp X n c43_34 Q) Q) st := by rw [awp_eq]; kernel_rfl
theorem w43_25 : awp X n c43_25 Q st = awp X n c43_26 (thenQ (awp X n c43_31 Q) Q) st := by rw [awp_eq]; kernel_rfl
theorem w43_24 : awp X n c43_24 Q st = ALoop X n c43_25 Q st := by rw [awp_eq]; kernel_rfl
theorem w43_23 : awp X n c43_23 Q st = awp X n c43_24 (blockQ 0 Q) st := by rw [awp_eq]; kernel_rfl
theorem w43_21 : awp X n c43_21 Q st = awp X n c43_22 (thenQ (awp X n c43_23 Q) Q) st := by rw [awp_eq]; kernel_rfl
noncomputable def c43_35 : Code := cr c43_20
noncomputable def c43_36 : Code := cl c43_35
theorem w43_36 : awp X n c43_36 Q ((a0::a1::a2::a3::a4::a5::a6::a7::a8::a9::b0::b1::b2::b3::b4::b5::b6::b7::b8::b9::d0::d1::d2::d3::d4::d5::d6::d7::d8::d9::e0::e1::e2::e3::e4::e5::e6::e7::e8::e9::f0::f1::f2::f3::f4::f5::f6::f7::f8::f9::g0::g1::g2::g3::g4::g5::g6::g7::g8::g9::[]), h) = (a_mov a0 h (.c (fun t50 h1 => a_mov a0 h1 (.c (fun t51 h2 => a_nilc t51 h2 (.c (fun t52 h3 => a_fa 1 t52 h3 (.c (fun t53 h4 => a_load 1 false t53 h4 (.c (fun t54 h5 => a_mov a1 h5 (.c (fun t55 h6 => a_bin .add t54 t55 h6 (.c (fun t56 h7 => a_nilc t50 h7 (.c (fun t57 h8 => a_fa 1 t57 h8 (.c (fun t58 h9 => a_store 1 t58 t56 h9 (.c (fun _v9 h10 => Q .normal ((a0::a1::a2::a3::a4::a5::a6::a7::a8::a9::b0::b1::b2::b3::b4::b5::b6::b7::b8::b9::d0::d1::d2::d3::d4::d5::d6::d7::d8::d9::e0::e1::e2::e3::e4::e5::e6::e7::e8::e9::f0::f1::f2::f3::f4::f5::f6::f7::f8::f9::t50::t51::t52::t53::t54::t55::t56::t57::t58::g9::[]), h10)) ())) ())) ())) ())) ())) ())) ())) ())) ())) ())) := by rw [awp_eq]; kernel_rfl
noncomputable def c43_37 : Code := cr c43_35
noncomputable def c43_38 : Code := cl c43_37
theorem w43_38 : awp X n c43_38 Q ((a0::a1::a2::a3::a4::a5::a6::a7::a8::a9::b0::b1::b2::b3::b4::b5::b6::b7::b8::b9::d0::d1::d2::d3::d4::d5::d6::d7::d8::d9::e0::e1::e2::e3::e4::e5::e6::e7::e8::e9::f0::f1::f2::f3::f4::f5::f6::f7::f8::f9::g0::g1::g2::g3::g4::g5::g6::g7::g8::g9::[]), h) = (a_mov a5 h (.c (fun t59 h1 => a_mov t59 h1 (.c (fun t4 h2 => Q .normal ((a0::a1::a2::a3::t4::a5::a6::a7::a8::a9::b0::b1::b2::b3::b4::b5::b6::b7::b8::b9::d0::d1::d2::d3::d4::d5::d6::d7::d8::d9::e0::e1::e2::e3::e4::e5::e6::e7::e8::e9::f0::f1::f2::f3::f4::f5::f6::f7::f8::f9::g0::g1::g2::g3::g4::g5::g6::g7::g8::t59::[]), h2)) ())) ())) := by rw [awp_eq]; kernel_rfl
noncomputable def c43_39 : Code := cr c43_37
theorem w43_39 : awp X n c43_39 Q st = Q .ret st := by rw [awp_eq]; kernel_rfl
theorem w43_37 : awp X n c43_37 Q st = awp X n c43_38 (thenQ (awp X n c43_39 Q) Q) st := by rw [awp_eq]; kernel_rfl
theorem w43_35 : awp X n c43_35 Q st = awp X n c43_36 (thenQ (awp X n c43_37 Q) Q) st := by rw [awp_eq]; kernel_rfl
theorem w43_20 : awp X n c43_20 Q st = awp X n c43_21 (thenQ (awp X n c43_35 Q) Q) st := by rw [awp_eq]; kernel_rfl
theorem w43_18 : awp X n c43_18 Q st = awp X n c43_19 (thenQ (awp X n c43_20 Q) Q) st := by rw [awp_eq]; kernel_rfl
theorem w43_10 : awp X n c43_10 Q st = awp X n c43_11 (thenQ (awp X n c43_18 Q) Q) st := by rw [awp_eq]; kernel_rfl
theorem w43_4 : awp X n c43_4 Q st = awp X n c43_5 (thenQ (awp X n c43_10 Q) Q) st := by rw [awp_eq]; kernel_rfl
theorem w43_2 : awp X n c43_2 Q st = awp X n c43_3 (thenQ (awp X n c43_4 Q) Q) st := by rw [awp_eq]; kernel_rfl
theorem w43_0 : awp X n c43_0 Q st = awp X n c43_1 (thenQ (awp X n c43_2 Q) Q) st := by rw [awp_eq]; kernel_rfl
theorem q43_ret : retQ X Tryd.f43 K .ret ((a0::a1::a2::a3::a4::a5::a6::a7::a8::a9::b0::b1::b2::b3::b4::b5::b6::b7::b8::b9::d0::d1::d2::d3::d4::d5::d6::d7::d8::d9::e0::e1::e2::e3::e4::e5::e6::e7::e8::e9::f0::f1::f2::f3::f4::f5::f6::f7::f8::f9::g0::g1::g2::g3::g4::g5::g6::g7::g8::g9::[]), h) = (K.K a4 h) := by kernel_rfl
theorem q43_normal : retQ X Tryd.f43 K .normal ((a0::a1::a2::a3::a4::a5::a6::a7::a8::a9::b0::b1::b2::b3::b4::b5::b6::b7::b8::b9::d0::d1::d2::d3::d4::d5::d6::d7::d8::d9::e0::e1::e2::e3::e4::e5::e6::e7::e8::e9::f0::f1::f2::f3::f4::f5::f6::f7::f8::f9::g0::g1::g2::g3::g4::g5::g6::g7::g8::g9::[]), h) = (K.K a4 h) := by kernel_rfl
theorem i43 (H : awp X h.length c43_0 (retQ X Tryd.f43 K) ((a0::a1::.bad::.bad::.bad::.bad::.bad::.bad::.bad::.bad::.bad::.bad::.bad::.bad::.bad::.bad::.bad::.bad::.bad::.bad::.bad::.bad::.bad::.bad::.bad::.bad::.bad::.bad::.bad::.bad::.bad::.bad::.bad::.bad::.bad::.bad::.bad::.bad::.bad::.bad::.bad::.bad::.bad::.bad::.bad::.bad::.bad::.bad::.bad::.bad::.bad::.bad::.bad::.bad::.bad::.bad::.bad::.bad::.bad::.bad::[]), h)) : ACall X 43 [a0, a1] h K := acall_intro (fn := Tryd.f43) (by kernel_rfl) (by kernel_rfl) (by kernel_rfl) H
noncomputable def R43 := And.intro (And.intro (And.intro (And.intro (And.intro w43_1 w43_3) (And.intro (w43_6) (And.intro w43_8 w43_9))) (And.intro (And.intro w43_7 w43_5) (And.intro (w43_12) (And.intro w43_15 w43_16)))) (And.intro (And.intro (And.intro w43_14 w43_17) (And.intro (w43_13) (And.intro w43_11 w43_19))) (And.intro (And.intro (w43_22) (And.intro w43_27 w43_29)) (And.intro (w43_30) (And.intro w43_28 w43_26))))) (And.intro (And.intro (And.intro (And.intro w43_33 w43_32) (And.intro (w43_34) (And.intro w43_31 w43_25))) (And.intro (And.intro w43_24 w43_23) (And.intro (w43_21) (And.intro w43_36 w43_38)))) (And.intro (And.intro (And.intro w43_39 w43_37) (And.intro (w43_35) (And.intro w43_20 w43_18))) (And.intro (And.intro (w43_10) (And.intro w43_4 w43_2)) (And.intro (w43_0) (And.intro q43_ret q43_normal)))))
/-! function 44: (*sindri/sindriref01.C).Left -/
noncomputable def c44_0 : Code := bodyOf Tryd.f44
noncomputable def c44_1 : Code := cl c44_0
theorem w44_1 : awp X n c44_1 Q ((a0::a1::a2::a3::a4::a5::a6::a7::a8::a9::b0::b1::b2::b3::b4::b5::b6::b7::[]), h) = (a_mov (.v (.int .i64 0)) h (.c (fun t2 h1 => Q .normal ((a0::a1::t2::a3::a4::a5::a6::a7::a8::a9::b0::b1::b2::b3::b4::b5::b6::b7::[]), h1)) ())) := by rw [awp_eq]; kernel_rfl
noncomputable def c44_2 : Code := cr c44_0
noncomputable def c44_3 : Code := cl c44_2
noncomputable def c44_4 : Code := cl c44_3
theorem w44_4 : awp X n c44_4 Q ((a0::a1::a2::a3::a4::a5::a6::a7::a8::a9::b0::b1::b2::b3::b4::b5::b6::b7::[]), h) = (a_mov a0 h (.c (fun t3 h1 => a_nilc t3 h1 (.c (fun t4 h2 => a_fa 2 t4 h2 (.c (fun t5 h3 => a_load 1 false t5 h3 (.c (fun t6 h4 => a_bin .neq t6 (.v (.int .i64 0)) h4 (.c (fun t7 h5 => Q .normal ((a0::a1::a2::t3::t4::t5::t6::t7::a8::a9::b0::b1::b2::b3::b4::b5::b6::b7::[]), h5)) ())) ())) ())) ())) ())) := by rw [awp_eq]; kernel_rfl
noncomputable def c44_5 : Code := cr c44_3
noncomputable def c44_6 : Code := cl c44_5
noncomputable def c44_7 : Code := cl c44_6
theorem w44_7 : awp X n c44_7 Q ((a0::a1::a2::a3::a4::a5::a6::a7::a8::a9::b0::b1::b2::b3::b4::b5::b6::b7::[]), h) = (a_mov (.v (.int .i64 0)) h (.c (fun t2 h1 => Q .normal ((a0::a1::t2::a3::a4::a5::a6::a7::a8::a9::b0::b1::b2::b3::b4::b5::b6::b7::[]), h1)) ())) := by rw [awp_eq]; kernel_rfl
noncomputable def c44_8 : Code := cr c44_6
theorem w44_8 : awp X n c44_8 Q st = Q .ret st := by rw [awp_eq]; kernel_rfl
theorem w44_6 : awp X n c44_6 Q st = awp X n c44_7 (thenQ (awp X n c44_8 Q) Q) st := by rw [awp_eq]; kernel_rfl
noncomputable def c44_9 : Code := cr c44_5
theorem w44_9 : awp X n c44_9 Q st = Q .normal st := by rw [awp_eq]; kernel_rfl
theorem w44_5 : awp X n c44_5 Q ((a0::a1::a2::a3::a4::a5::a6::a7::a8::a9::b0::b1::b2::b3::b4::b5::b6::b7::[]), h) = a_cond a7 (awp X n c44_6 Q ((a0::a1::a2::a3::a4::a5::a6::a7::a8::a9::b0::b1::b2::b3::b4::b5::b6::b7::[]), h)) (awp X n c44_9 Q ((a0::a1::a2::a3::a4::a5::a6::a7::a8::a9::b0::b1::b2::b3::b4::b5::b6::b7::[]), h)) := by rw [awp_eq]; kernel_rfl
theorem w44_3 : awp X n c44_3 Q st = awp X n c44_4 (thenQ (awp X n c44_5 Q) Q) st := by rw [awp_eq]; kernel_rfl
noncomputable def c44_10 : Code := cr c44_2
noncomputable def c44_11 : Code := cl c44_10
theorem w44_11 : awp X n c44_11 Q ((a0::a1::a2::a3::a4::a5::a6::a7::a8::a9::b0::b1::b2::b3::b4::b5::b6::b7::[]), h) = (a_mov a0 h (.c (fun t8 h1 => a_nilc t8 h1 (.c (fun t9 h2 => a_fa 0 t9 h2 (.c (fun t10 h3 => a_load 1 false t10 h3 (.c (fun t11 h4 => a_len t11 h4 (.c (fun t12 h5 => a_mov a0 h5 (.c (fun t13 h6 => a_nilc t13 h6 (.c (fun t14 h7 => a_fa 1 t14 h7 (.c (fun t15 h8 => a_load 1 false t15 h8 (.c (fun t16 h9 => a_bin .sub t12 t16 h9 (.c (fun t17 h10 => a_mov t17 h10 (.c (fun t2 h11 => Q .normal ((a0::a1::t2::a3::a4::a5::a6::a7::t8::t9::t10::t11::t12::t13::t14::t15::t16::t17::[]), h11)) ())) ())) ())) ())) ())) ())) ())) ())) ())) ())) ())) := by rw [awp_eq]; kernel_rfl
noncomputable def c44_12 : Code := cr c44_10
theorem w44_12 : awp X n c44_12 Q st = Q .ret st := by rw [awp_eq]; kernel_rfl
theorem w44_10 : awp X n c44_10 Q st = awp X n c44_11 (thenQ (awp X n c44_12 Q) Q) st := by rw [awp_eq]; kernel_rfl
theorem w44_2 : awp X n c44_2 Q st = awp X n c44_3 (thenQ (awp X n c44_10 Q) Q) st := by rw [awp_eq]; kernel_rfl
theorem w44_0 : awp X n c44_0 Q st = awp X n c44_1 (thenQ (awp X n c44_2 Q) Q) st := by rw [awp_eq]; kernel_rfl
theorem q44_ret : retQ X Tryd.f44 K .ret ((a0::a1::a2::a3::a4::a5::a6::a7::a8::a9::b0::b1::b2::b3::b4::b5::b6::b7::[]), h) = (K.K a2 h) := by kernel_rfl
theorem q44_normal : retQ X Tryd.f44 K .normal ((a0::a1::a2::a3::a4::a5::a6::a7::a8::a9::b0::b1::b2::b3::b4::b5::b6::b7::[]), h) = (K.K a2 h) := by kernel_rfl
theorem i44 (H : awp X h.length c44_0 (retQ X Tryd.f44 K) ((a0::.bad::.bad::.bad::.bad::.bad::.bad::.bad::.bad::.bad::.bad::.bad::.bad::.bad::.bad::.bad::.bad::.bad::[]), h)) : ACall X 44 [a0] h K := acall_intro (fn := Tryd.f44) (by kernel_rfl) (by kernel_rfl) (by kernel_rfl) H
noncomputable def R44 := And.intro (And.intro (And.intro (w44_1) (And.intro w44_4 w44_7)) (And.intro (And.intro w44_8 w44_6) (And.intro w44_9 w44_5))) (And.intro (And.intro (And.intro w44_3 w44_11) (And.intro w44_12 w44_10)) (And.intro (And.intro w44_2 w44_0) (And.intro q44_ret q44_normal)))
/-! function 45: sindri/cursor.width -/
noncomputable def c45_0 : Code := bodyOf Tryd.f45
noncomputable def c45_1 : Code := cl c45_0
theorem w45_1 : awp X n c45_1 Q ([a0,a1,a2,a3,a4,a5], h) = (a_mov (.v (.int .i64 0)) h (.c (fun t2 h1 => Q .normal ([a0,a1,t2,a3,a4,a5], h1)) ())) := by rw [awp_eq]; kernel_rfl
noncomputable def c45_2 : Code := cr c45_0
noncomputable def c45_3 : Code := cl c45_2
theorem w45_3 : awp X n c45_3 Q ([a0,a1,a2,a3,a4,a5], h) = (a_mov a0 h (.c (fun t3 h1 => a_max [t3, (.v (.int .i64 0))] h1 (.c (fun t4 h2 => a_min [t4, (.v (.int .i64 8))] h2 (.c (fun t5 h3 => a_mov t5 h3 (.c (fun t2 h4 => Q .normal ([a0,a1,t2,t3,t4,t5], h4)) ())) ())) ())) ())) := by rw [awp_eq]; kernel_rfl
noncomputable def c45_4 : Code := cr c45_2
theorem w45_4 : awp X n c45_4 Q st = Q .ret st := by rw [awp_eq]; kernel_rfl
theorem w45_2 : awp X n c45_2 Q st = awp X n c45_3 (thenQ (awp X n c45_4 Q) Q) st := by rw [awp_eq]; kernel_rfl
theorem w45_0 : awp X n c45_0 Q st = awp X n c45_1 (thenQ (awp X n c45_2 Q) Q) st := by rw [awp_eq]; kernel_rfl
theorem q45_ret : retQ X Tryd.f45 K .ret ([a0,a1,a2,a3,a4,a5], h) = (K.K a2 h) := by kernel_rfl
theorem q45_normal : retQ X Tryd.f45 K .normal ([a0,a1,a2,a3,a4,a5], h) = (K.K a2 h) := by kernel_rfl
theorem i45 (H : awp X h.length c45_0 (retQ X Tryd.f45 K) ([a0,.bad,.bad,.bad,.bad,.bad], h)) : ACall X 45 [a0] h K := acall_intro (fn := Tryd.f45) (by kernel_rfl) (by kernel_rfl) (by kernel_rfl) H
noncomputable def R45 := And.intro (And.intro (w45_1) (And.intro w45_3 w45_4)) (And.intro (And.intro w45_2 w45_0) (And.intro q45_ret q45_normal))
/-! function 47: sindri/sindriref01.size -/
noncomputable def c47_0 : Code := bodyOf Tryd.f47
noncomputable def c47_1 : Code := cl c47_0
theorem w47_1 : awp X n c47_1 Q ((a0::a1::a2::a3::a4::a5::a6::a7::[]), h) = (a_mov (.v (.int .i64 0)) h (.c (fun t2 h1 => Q .normal ((a0::a1::t2::a3::a4::a5::a6::a7::[]), h1)) ())) := by rw [awp_eq]; kernel_rfl
noncomputable def c47_2 : Code := cr c47_0
noncomputable def c47_3 : Code := cl c47_2
noncomputable def c47_4 : Code := cl c47_3
theorem w47_4 : awp X n c47_4 Q ((a0::a1::a2::a3::a4::a5::a6::a7::[]), h) = (a_mov a0 h (.c (fun t3 h1 => a_bin .lss t3 (.v (.int .i64 0)) h1 (.c (fun t4 h2 => Q .normal ((a0::a1::a2::t3::t4::a5::a6::a7::[]), h2)) ())) ())) := by rw [awp_eq]; kernel_rfl
noncomputable def c47_5 : Code := cr c47_3
noncomputable def c47_6 : Code := cl c47_5
noncomputable def c47_7 : Code := cl c47_6
theorem w47_7 : awp X n c47_7 Q ((a0::a1::a2::a3::a4::a5::a6::a7::[]), h) = (a_mov (.v (.int .i64 0)) h (.c (fun t2 h1 => Q .normal ((a0::a1::t2::a3::a4::a5::a6::a7::[]), h1)) ())) := by rw [awp_eq]; kernel_rfl
noncomputable def c47_8 : Code := cr c47_6
theorem w47_8 : awp X n c47_8 Q st = Q .ret st := by rw [awp_eq]; kernel_rfl
theorem w47_6 : awp X n c47_6 Q st = awp X n c47_7 (thenQ (awp X n c47_8 Q) Q) st := by rw [awp_eq]; kernel_rfl
noncomputable def c47_9 : Code := cr c47_5
theorem w47_9 : awp X n c47_9 Q st = Q .normal st := by rw [awp_eq]; kernel_rfl
theorem w47_5 : awp X n c47_5 Q ((a0::a1::a2::a3::a4::a5::a6::a7::[]), h) = a_cond a4 (awp X n c47_6 Q ((a0::a1::a2::a3::a4::a5::a6::a7::[]), h)) (awp X n c47_9 Q ((a0::a1::a2::a3::a4::a5::a6::a7::[]), h)) := by rw [awp_eq]; kernel_rfl
theorem w47_3 : awp X n c47_3 Q st = awp X n c47_4 (thenQ (awp X n c47_5 Q) Q) st := by rw [awp_eq]; kernel_rfl
noncomputable def c47_10 : Code := cr c47_2
noncomputable def c47_11 : Code := cl c47_10
noncomputable def c47_12 : Code := cl c47_11
theorem w47_12 : awp X n c47_12 Q ((a0::a1::a2::a3::a4::a5::a6::a7::[]), h) = (a_mov a0 h (.c (fun t5 h1 => a_bin .gtr t5 (.v (.int .i64 8)) h1 (.c (fun t6 h2 => Q .normal ((a0::a1::a2::a3::a4::t5::t6::a7::[]), h2)) ())) ())) := by rw [awp_eq]; kernel_rfl
noncomputable def c47_13 : Code := cr c47_11
noncomputable def c47_14 : Code := cl c47_13
noncomputable def c47_15 : Code := cl c47_14
theorem w47_15 : awp X n c47_15 Q ((a0::a1::a2::a3::a4::a5::a6::a7::[]), h) = (a_mov (.v (.int .i64 8)) h (.c (fun t2 h1 => Q .normal ((a0::a1::t2::a3::a4::a5::a6::a7::[]), h1)) ())) := by rw [awp_eq]; kernel_rfl
noncomputable def c47_16 : Code := cr c47_14
theorem w47_16 : awp X n c47_16 Q st = Q .ret st := by rw [awp_eq]; kernel_rfl
theorem w47_14 : awp X n c47_14 Q st = awp X n c47_15 (thenQ (awp X n c47_16 Q) Q) st := by rw [awp_eq]; kernel_rfl
noncomputable def c47_17 : Code := cr c47_13
theorem w47_17 : awp X n c47_17 Q st = Q .normal st := by rw [awp_eq]; kernel_rfl
theorem w47_13 : awp X n c47_13 Q ((a0::a1::a2::a3::a4::a5::a6::a7::[]), h) = a_cond a6 (awp X n c47_14 Q ((a0::a1::a2::a3::a4::a5::a6::a7::[]), h)) (awp X n c47_17 Q ((a0::a1::a2::a3::a4::a5::a6::a7::[]), h)) := by rw [awp_eq]; kernel_rfl
theorem w47_11 : awp X n c47_11 Q st = awp X n c47_12 (thenQ (awp X n c47_13 Q) Q) st := by rw [awp_eq]; kernel_rfl
noncomputable def c47_18 : Code := cr c47_10
noncomputable def c47_19 : Code := cl c47_18
theorem w47_19 : awp X n c47_19 Q ((a0::a1::a2::a3::a4::a5::a6::a7::[]), h) = (a_mov a0 h (.c (fun t7 h1 => a_mov t7 h1 (.c (fun t2 h2 => Q .normal ((a0::a1::t2::a3::a4::a5::a6::t7::[]), h2)) ())) ())) := by rw [awp_eq]; kernel_rfl
noncomputable def c47_20 : Code := cr c47_18
theorem w47_20 : awp X n c47_20 Q st = Q .ret st := by rw [awp_eq]; kernel_rfl
theorem w47_18 : awp X n c47_18 Q st = awp X n c47_19 (thenQ (awp X n c47_20 Q) Q) st := by rw [awp_eq]; kernel_rfl
theorem w47_10 : awp X n c47_10 Q st = awp X n c47_11 (thenQ (awp X n c47_18 Q) Q) st := by rw [awp_eq]; kernel_rfl
theorem w47_2 : awp X n c47_2 Q st = awp X n c47_3 (thenQ (awp X n c47_10 Q) Q) st := by rw [awp_eq]; kernel_rfl
theorem w47_0 : awp X n c47_0 Q st = awp X n c47_1 (thenQ (awp X n c47_2 Q) Q) st := by rw [awp_eq]; kernel_rfl
theorem q47_ret : retQ X Tryd.f47 K .ret ((a0::a1::a2::a3::a4::a5::a6::a7::[]), h) = (K.K a2 h) := by kernel_rfl
theorem q47_normal : retQ X Tryd.f47 K .normal ((a0::a1::a2::a3::a4::a5::a6::a7::[]), h) = (K.K a2 h) := by kernel_rfl
theorem i47 (H : awp X h.length c47_0 (retQ X Tryd.f47 K) ((a0::.bad::.bad::.bad::.bad::.bad::.bad::.bad::[]), h)) : ACall X 47 [a0] h K := acall_intro (fn := Tryd.f47) (by kernel_rfl) (by kernel_rfl) (by kernel_rfl) H
noncomputable def R47 := And.intro (And.intro (And.intro (And.intro w47_1 w47_4) (And.intro (w47_7) (And.intro w47_8 w47_6))) (And.intro (And.intro (w47_9) (And.intro w47_5 w47_3)) (And.intro (w47_12) (And.intro w47_15 w47_16)))) (And.intro (And.intro (And.intro (w47_14) (And.intro w47_17 w47_13)) (And.intro (w47_11) (And.intro w47_19 w47_20))) (And.intro (And.intro (w47_18) (And.intro w47_10 w47_2)) (And.intro (w47_0) (And.intro q47_ret q47_normal))))
/-! function 48: (*sindri/cursor.Cursor).next -/
noncomputable def c48_0 : Code := bodyOf Tryd.f48
noncomputable def c48_1 : Code := cl c48_0
theorem w48_1 : awp X n c48_1 Q ((a0::a1::a2::a3::a4::a5::a6::a7::a8::a9::b0::b1::b2::b3::b4::b5::b6::b7::b8::b9::d0::d1::d2::d3::d4::d5::d6::d7::d8::d9::e0::e1::e2::e3::e4::e5::e6::e7::e8::e9::f0::f1::f2::f3::f4::f5::f6::f7::f8::[]), h) = (a_mov (.v (.slice none 0 0)) h (.c (fun t4 h1 => Q .normal ((a0::a1::a2::a3::t4::a5::a6::a7::a8::a9::b0::b1::b2::b3::b4::b5::b6::b7::b8::b9::d0::d1::d2::d3::d4::d5::d6::d7::d8::d9::e0::e1::e2::e3::e4::e5::e6::e7::e8::e9::f0::f1::f2::f3::f4::f5::f6::f7::f8::[]), h1)) ())) := by rw [awp_eq]; kernel_rfl
noncomputable def c48_2 : Code := cr c48_0
noncomputable def c48_3 : Code := cl c48_2
noncomputable def c48_4 : Code := cl c48_3
theorem w48_4 : awp X n c48_4 Q ((a0::a1::a2::a3::a4::a5::a6::a7::a8::a9::b0::b1::b2::b3::b4::b5::b6::b7::b8::b9::d0::d1::d2::d3::d4::d5::d6::d7::d8::d9::e0::e1::e2::e3::e4::e5::e6::e7::e8::e9::f0::f1::f2::f3::f4::f5::f6::f7::f8::[]), h) = (a_mov a0 h (.c (fun t6 h1 => ACall X 21 [t6] h1 (.c (fun t7 h2 => a_bin .neq t7 (.v (.int .i64 0)) h2 (.c (fun t8 h3 => Q .normal ((a0::a1::a2::a3::a4::a5::t6::t7::t8::a9::b0::b1::b2::b3::b4::b5::b6::b7::b8::b9::d0::d1::d2::d3::d4::d5::d6::d7::d8::d9::e0::e1::e2::e3::e4::e5::e6::e7::e8::e9::f0::f1::f2::f3::f4::f5::f6::f7::f8::[]), h3)) ())) ())) ())) := by rw [awp_eq]; kernel_rfl
noncomputable def c48_5 : Code := cr c48_3
noncomputable def c48_6 : Code := cl c48_5
noncomputable def c48_7 : Code := cl c48_6
theorem w48_7 : awp X n c48_7 Q ((a0::a1::a2::a3::a4::a5::a6::a7::a8::a9::b0::b1::b2::b3::b4::b5::b6::b7::b8::b9::d0::d1::d2::d3::d4::d5::d6::d7::d8::d9::e0::e1::e2::e3::e4::e5::e6::e7::e8::e9::f0::f1::f2::f3::f4::f5::f6::f7::f8::[]), h) = (a_mov (.v (.slice none 0 0)) h (.c (fun t4 h1 => Q .normal ((a0::a1::a2::a3::t4::a5::a6::a7::a8::a9::b0::b1::b2::b3::b4::b5::b6::b7::b8::b9::d0::d1::d2::d3::d4::d5::d6::d7::d8::d9::e0::e1::e2::e3::e4::e5::e6::e7::e8::e9::f0::f1::f2::f3::f4::f5::f6::f7::f8::[]), h1)) ())) := by rw [awp_eq]; kernel_rfl
noncomputable def c48_8 : Code := cr c48_6
theorem w48_8 : awp X n c48_8 Q st = Q .ret st := by rw [awp_eq]; kernel_rfl
theorem w48_6 : awp X n c48_6 Q st = awp X n c48_7 (thenQ (awp X n c48_8 Q) Q) st := by rw [awp_eq]; kernel_rfl
noncomputable def c48_9 : Code := cr c48_5
theorem w48_9 : awp X n c48_9 Q st = Q .normal st := by rw [awp_eq]; kernel_rfl
theorem w48_5 : awp X n c48_5 Q ((a0::a1::a2::a3::a4::a5::a6::a7::a8::a9::b0::b1::b2::b3::b4::b5::b6::b7::b8::b9::d0::d1::d2::d3::d4::d5::d6::d7::d8::d9::e0::e1::e2::e3::e4::e5::e6::e7::e8::e9::f0::f1::f2::f3::f4::f5::f6::f7::f8::[]), h) = a_cond a8 (awp X n c48_6 Q ((a0::a1::a2::a3::a4::a5::a6::a7::a8::a9::b0::b1::b2::b3::b4::b5::b6::b7::b8::b9::d0::d1::d2::d3::d4::d5::d6::d7::d8::d9::e0::e1::e2::e3::e4::e5::e6::e7::e8::e9::f0::f1::f2::f3::f4::f5::f6::f7::f8::[]), h)) (awp X n c48_9 Q ((a0::a1::a2::a3::a4::a5::a6::a7::a8::a9::b0::b1::b2::b3::b4::b5::b6::b7::b8::b9::d0::d1::d2::d3::d4::d5::d6::d7::d8::d9::e0::e1::e2::e3::e4::e5::e6::e7::e8::e9::f0::f1::f2::f3::f4::f5::f6::f7::f8::[]), h)) := by rw [awp_eq]; kernel_rfl
theorem w48_3 : awp X n c48_3 Q st = awp X n c48_4 (thenQ (awp X n c48_5 Q) Q) st := by rw [awp_eq]; kernel_rfl
noncomputable def c48_10 : Code := cr c48_2
noncomputable def c48_11 : Code := cl c48_10
noncomputable def c48_12 : Code := cl c48_11
theorem w48_12 : awp X n c48_12 Q ((a0::a1::a2::a3::a4::a5::a6::a7::a8::a9::b0::b1::b2::b3::b4::b5::b6::b7::b8::b9::d0::d1::d2::d3::d4::d5::d6::d7::d8::d9::e0::e1::e2::e3::e4::e5::e6::e7::e8::e9::f0::f1::f2::f3::f4::f5::f6::f7::f8::[]), h) = (a_mov a1 h (.c (fun t9 h1 => a_mov a0 h1 (.c (fun t10 h2 => ACall X 18 [t10] h2 (.c (fun t11 h3 => a_cint .u64 t11 h3 (.c (fun t12 h4 => a_bin .gtr t9 t12 h4 (.c (fun t13 h5 => Q .normal ((a0::a1::a2::a3::a4::a5::a6::a7::a8::t9::t10::t11::t12::t13::b4::b5::b6::b7::b8::b9::d0::d1::d2::d3::d4::d5::d6::d7::d8::d9::e0::e1::e2::e3::e4::e5::e6::e7::e8::e9::f0::f1::f2::f3::f4::f5::f6::f7::f8::[]), h5)) ())) ())) ())) ())) ())) := by rw [awp_eq]; kernel_rfl
noncomputable def c48_13 : Code := cr c48_11
noncomputable def c48_14 : Code := cl c48_13
noncomputable def c48_15 : Code := cl c48_14
theorem w48_15 : awp X n c48_15 Q ((a0::a1::a2::a3::a4::a5::a6::a7::a8::a9::b0::b1::b2::b3::b4::b5::b6::b7::b8::b9::d0::d1::d2::d3::d4::d5::d6::d7::d8::d9::e0::e1::e2::e3::e4::e5::e6::e7::e8::e9::f0::f1::f2::f3::f4::f5::f6::f7::f8::[]), h) = (a_mov a0 h (.c (fun t14 h1 => ACall X 41 [t14, (.v (.int .i64 10))] h1 (.c (fun t15 h2 => Q .normal ((a0::a1::a2::a3::a4::a5::a6::a7::a8::a9::b0::b1::b2::b3::t14::t15::b6::b7::b8::b9::d0::d1::d2::d3::d4::d5::d6::d7::d8::d9::e0::e1::e2::e3::e4::e5::e6::e7::e8::e9::f0::f1::f2::f3::f4::f5::f6::f7::f8::[]), h2)) ())) ())) := by rw [awp_eq]; kernel_rfl
noncomputable def c48_16 : Code := cr c48_14
noncomputable def c48_17 : Code := cl c48_16
theorem w48_17 : awp X n c48_17 Q ((a0::a1::a2::a3::a4::a5::a6::a7::a8::a9::b0::b1::b2::b3::b4::b5::b6::b7::b8::b9::d0::d1::d2::d3::d4::d5::d6::d7::d8::d9::e0::e1::e2::e3::e4::e5::e6::e7::e8::e9::f0::f1::f2::f3::f4::f5::f6::f7::f8::[]), h) = (a_mov (.v (.slice none 0 0)) h (.c (fun t4 h1 => Q .normal ((a0::a1::a2::a3::t4::a5::a6::a7::a8::a9::b0::b1::b2::b3::b4::b5::b6::b7::b8::b9::d0::d1::d2::d3::d4::d5::d6::d7::d8::d9::e0::e1::e2::e3::e4::e5::e6::e7::e8::e9::f0::f1::f2::f3::f4::f5::f6::f7::f8::[]), h1)) ())) := by rw [awp_eq]; kernel_rfl
noncomputable def c48_18 : Code := cr c48_16
theorem w48_18 : awp X n c48_18 Q st = Q .ret st := by rw [awp_eq]; kernel_rfl
theorem w48_16 : awp X n c48_16 Q st = awp X n c48_17 (thenQ (awp X n c48_18 Q) Q) st := by rw [awp_eq]; kernel_rfl
theorem w48_14 : awp X n c48_14 Q st = awp X n c48_15 (thenQ (awp X n c48_16 Q) Q) st := by rw [awp_eq]; kernel_rfl
noncomputable def c48_19 : Code := cr c48_13
theorem w48_19 : awp X n c48_19 Q st = Q .normal st := by rw [awp_eq]; kernel_rfl
theorem w48_13 : awp X n c48_13 Q ((a0::a1::a2::a3::a4::a5::a6::a7::a8::a9::b0::b1::b2::b3::b4::b5::b6::b7::b8::b9::d0::d1::d2::d3::d4::d5::d6::d7::d8::d9::e0::e1::e2::e3::e4::e5::e6::e7::e8::e9::f0::f1::f2::f3::f4::f5::f6::f7::f8::[]), h) = a_cond b3 (awp X n c48_14 Q ((a0::a1::a2::a3::a4::a5::a6::a7::a8::a9::b0::b1::b2::b3::b4::b5::b6::b7::b8::b9::d0::d1::d2::d3::d4::d5::d6::d7::d8::d9::e0::e1::e2::e3::e4::e5::e6::e7::e8::e9::f0::f1::f2::f3::f4::f5::f6::f7::f8::[]), h)) (awp X n c48_19 Q ((a0::a1::a2::a3::a4::a5::a6::a7::a8::a9::b0::b1::b2::b3::b4::b5::b6::b7::b8::b9::d0::d1::d2::d3::d4::d5::d6::d7::d8::d9::e0::e1::e2::e3::e4::e5::e6::e7::e8::e9::f0::f1::f2::f3::f4::f5::f6::f7::f8::[]), h)) := by rw [awp_eq]; kernel_rfl
theorem w48_11 : awp X n c48_11 Q st = awp X n c48_12 (thenQ (awp X n c48_13 Q) Q) st := by rw [awp_eq]; kernel_rfl
noncomputable def c48_20 : Code := cr c48_10
noncomputable def c48_21 : Code := cl c48_20
theorem w48_21 : awp X n c48_21 Q ((a0::a1::a2::a3::a4::a5::a6::a7::a8::a9::b0::b1::b2::b3::b4::b5::b6::b7::b8::b9::d0::d1::d2::d3::d4::d5::d6::d7::d8::d9::e0::e1::e2::e3::e4::e5::e6::e7::e8::e9::f0::f1::f2::f3::f4::f5::f6::f7::f8::[]), h) = (a_mov a0 h (.c (fun t16 h1 => a_nilc t16 h1 (.c (fun t17 h2 => a_fa 0 t17 h2 (.c (fun t18 h3 => a_load 1 false t18 h3 (.c (fun t19 h4 => a_mov a0 h4 (.c (fun t20 h5 => a_nilc t20 h5 (.c (fun t21 h6 => a_fa 1 t21 h6 (.c (fun t22 h7 => a_load 1 false t22 h7 (.c (fun t23 h8 => a_mov a0 h8 (.c (fun t24 h9 => a_nilc t24 h9 (.c (fun t25 h10 => a_fa 1 t25 h10 (.c (fun t26 h11 => a_load 1 false t26 h11 (.c (fun t27 h12 => a_mov a1 h12 (.c (fun t28 h13 => a_cint .i64 t28 h13 (.c (fun t29 h14 => a_bin .add t27 t29 h14 (.c (fun t30 h15 => a_mov a0 h15 (.c (fun t31 h16 => a_nilc t31 h16 (.c (fun t32 h17 => a_fa 1 t32 h17 (.c (fun t33 h18 => a_load 1 false t33 h18 (.c (fun t34 h19 => a_mov a1 h19 (.c (fun t35 h20 => a_cint .i64 t35 h20 (.c (fun t36 h21 => a_bin .add t34 t36 h21 (.c (fun t37 h22 => a_slice 1 t19 (some t23) (some t30) (some t37) h22 (.c (fun t38 h23 => a_mov t38 h23 (.c (fun t5 h24 => Q .normal ((a0::a1::a2::a3::a4::t5::a6::a7::a8::a9::b0::b1::b2::b3::b4::b5::t16::t17::t18::t19::t20::t21::t22::t23::t24::t25::t26::t27::t28::t29::t30::t31::t32::t33::t34::t35::t36::t37::t38::e9::f0::f1::f2::f3::f4::f5::f6::f7::f8::[]), h24)) ())) ())) ())) ())) ())) ())) ())) ())) ())) ())) ())) ())) ())) ())) ())) ())) ())) ())) ())) ())) ())) ())) ())) ())) := by rw [awp_eq]; kernel_rfl
noncomputable def c48_22 : Code := cr c48_20
noncomputable def c48_23 : Code := cl c48_22
theorem w48_23 : awp X n c48_23 Q ((a0::a1::a2::a3::a4::a5::a6::a7::a8::a9::b0::b1::b2::b3::b4::b5::b6::b7::b8::b9::d0::d1::d2::d3::d4::d5::d6::d7::d8::d9::e0::e1::e2::e3::e4::e5::e6::e7::e8::e9::f0::f1::f2::f3::f4::f5::f6::f7::f8::[]), h) = (a_mov a0 h (.c (fun t39 h1 => a_nilc t39 h1 (.c (fun t40 h2 => a_fa 1 t40 h2 (.c (fun t41 h3 => a_load 1 false t41 h3 (.c (fun t42 h4 => a_mov a1 h4 (.c (fun t43 h5 => a_cint .i64 t43 h5 (.c (fun t44 h6 => a_bin .add t42 t44 h6 (.c (fun t45 h7 => a_nilc t39 h7 (.c (fun t46 h8 => a_fa 1 t46 h8 (.c (fun t47 h9 => a_store 1 t47 t45 h9 (.c (fun _v9 h10 => Q .normal ((a0::a1::a2::a3::a4::a5::a6::a7::a8::a9::b0::b1::b2::b3::b4::b5::b6::b7::b8::b9::d0::d1::d2::d3::d4::d5::d6::d7::d8::d9::e0::e1::e2::e3::e4::e5::e6::e7::e8::t39::t40::t41::t42::t43::t44::t45::t46::t47::f8::[]), h10)) ())) ())) ())) ())) ())) ())) ())) ())) ())) ())) := by rw [awp_eq]; kernel_rfl
noncomputable def c48_24 : Code := cr c48_22
noncomputable def c48_25 : Code := cl c48_24
theorem w48_25 : awp X n c48_25 Q ((a0::a1::a2::a3::a4::a5::a6::a7::a8::a9::b0::b1::b2::b3::b4::b5::b6::b7::b8::b9::d0::d1::d2::d3::d4::d5::d6::d7::d8::d9::e0::e1::e2::e3::e4::e5::e6::e7::e8::e9::f0::f1::f2::f3::f4::f5::f6::f7::f8::[]), h) = (a_mov a5 h (.c (fun t48 h1 => a_mov t48 h1 (.c (fun t4 h2 => Q .normal ((a0::a1::a2::a3::t4::a5::a6::a7::a8::a9::b0::b1::b2::b3::b4::b5::b6::b7::b8::b9::d0::d1::d2::d3::d4::d5::d6::d7::d8::d9::e0::e1::e2::e3::e4::e5::e6::e7::e8::e9::f0::f1::f2::f3::f4::f5::f6::f7::t48::[]), h2)) ())) ())) := by rw [awp_eq]; kernel_rfl
noncomputable def c48_26 : Code := cr c48_24
theorem w48_26 : awp X n c48_26 Q st = Q .ret st := by rw [awp_eq]; kernel_rfl
theorem w48_24 : awp X n c48_24 Q st = awp X n c48_25 (thenQ (awp X n c48_26 Q) Q) st := by rw [awp_eq]; kernel_rfl
theorem w48_22 : awp X n c48_22 Q st = awp X n c48_23 (thenQ (awp X n c48_24 Q) Q) st := by rw [awp_eq]; kernel_rfl
theorem w48_20 : awp X n c48_20 Q st = awp X n c48_21 (thenQ (awp X n c48_22 Q) Q) st := by rw [awp_eq]; kernel_rfl
theorem w48_10 : awp X n c48_10 Q st = awp X n c48_11 (thenQ (awp X n c48_20 Q) Q) st := by rw [awp_eq]; kernel_rfl
theorem w48_2 : awp X n c48_2 Q st = awp X n c48_3 (thenQ (awp X n c48_10 Q) Q) st := by rw [awp_eq]; kernel_rfl
theorem w48_0 : awp X n c48_0 Q st = awp X n c48_1 (thenQ (awp X n c48_2 Q) Q) st := by rw [awp_eq]; kernel_rfl
theorem q48_ret : retQ X Tryd.f48 K .ret ((a0::a1::a2::a3::a4::a5::a6::a7::a8::a9::b0::b1::b2::b3::b4::b5::b6::b7::b8::b9::d0::d1::d2::d3::d4::d5::d6::d7::d8::d9::e0::e1::e2::e3::e4::e5::e6::e7::e8::e9::f0::f1::f2::f3::f4::f5::f6::f7::f8::[]), h) = (K.K a4 h) := by kernel_rfl
theorem q48_normal : retQ X Tryd.f48 K .normal ((a0::a1::a2::a3::a4::a5::a6::a7::a8::a9::b0::b1::b2::b3::b4::b5::b6::b7::b8::b9::d0::d1::d2::d3::d4::d5::d6::d7::d8::d9::e0::e1::e2::e3::e4::e5::e6::e7::e8::e9::f0::f1::f2::f3::f4::f5::f6::f7::f8::[]), h) = (K.K a4 h) := by kernel_rfl
theorem i48 (H : awp X h.length c48_0 (retQ X Tryd.f48 K) ((a0::a1::.bad::.bad::.bad::.bad::.bad::.bad::.bad::.bad::.bad::.bad::.bad::.bad::.bad::.bad::.bad::.bad::.bad::.bad::.bad::.bad::.bad::.bad::.bad::.bad::.bad::.bad::.bad::.bad::.bad::.bad::.bad::.bad::.bad::.bad::.bad::.bad::.bad::.bad::.bad::.bad::.bad::.bad::.bad::.bad::.bad::.bad::.bad::[]), h)) : ACall X 48 [a0, a1] h K := acall_intro (fn := Tryd.f48) (by kernel_rfl) (by kernel_rfl) (by kernel_rfl) H
noncomputable def R48 := And.intro (And.intro (And.intro (And.intro (w48_1) (And.intro w48_4 w48_7)) (And.intro (And.intro w48_8 w48_6) (And.intro w48_9 w48_5))) (And.intro (And.intro (w48_3) (And.intro w48_12 w48_15)) (And.intro (And.intro w48_17 w48_18) (And.intro w48_16 w48_14)))) (And.intro (And.intro (And.intro (w48_19) (And.intro w48_13 w48_11)) (And.intro (And.intro w48_21 w48_23) (And.intro w48_25 w48_26))) (And.intro (And.intro (And.intro w48_24 w48_22) (And.intro w48_20 w48_10)) (And.intro (And.intro w48_2 w48_0) (And.intro q48_ret q48_normal))))
/-! function 50: (*sindri/sindriref01.C).Sub -/
noncomputable def c50_0 : Code := bodyOf Tryd.f50
noncomputable def c50_1 : Code := cl c50_0
theorem w50_1 : awp X n c50_1 Q ((a0::a1::a2::a3::a4::a5::a6::a7::a8::a9::b0::b1::b2::b3::b4::b5::[]), h) = (a_mov (.v (.pointer none)) h (.c (fun t4 h1 => Q .normal ((a0::a1::a2::a3::t4::a5::a6::a7::a8::a9::b0::b1::b2::b3::b4::b5::[]), h1)) ())) := by rw [awp_eq]; kernel_rfl
noncomputable def c50_2 : Code := cr c50_0
noncomputable def c50_3 : Code := cl c50_2
theorem w50_3 : awp X n c50_3 Q ((a0::a1::a2::a3::a4::a5::a6::a7::a8::a9::b0::b1::b2::b3::b4::b5::[]), h) = (a_mov a0 h (.c (fun t6 h1 => a_mov a1 h1 (.c (fun t7 h2 => ACall X 52 [t6, t7] h2 (.c (fun t8 h3 => a_mov t8 h3 (.c (fun t5 h4 => Q .normal ((a0::a1::a2::a3::a4::t5::t6::t7::t8::a9::b0::b1::b2::b3::b4::b5::[]), h4)) ())) ())) ())) ())) := by rw [awp_eq]; kernel_rfl
noncomputable def c50_4 : Code := cr c50_2
noncomputable def c50_5 : Code := cl c50_4
theorem w50_5 : awp X n c50_5 Q ((a0::a1::a2::a3::a4::a5::a6::a7::a8::a9::b0::b1::b2::b3::b4::b5::[]), h) = (a_mov a5 h (.c (fun t9 h1 => a_mov a0 h1 (.c (fun t10 h2 => a_nilc t10 h2 (.c (fun t11 h3 => a_fa 2 t11 h3 (.c (fun t12 h4 => a_load 1 false t12 h4 (.c (fun t13 h5 => a_build [.v (.slice none 0 0), .v (.int .i64 0), .v (.int .i64 0)] [(0, 1, t9), (2, 1, t13)] h5 (.c (fun t14 h6 => a_box t14 h6 (.c (fun t15 h7 => a_mov t15 h7 (.c (fun t4 h8 => Q .normal ((a0::a1::a2::a3::t4::a5::a6::a7::a8::t9::t10::t11::t12::t13::t14::t15::[]), h8)) ())) ())) ())) ())) ())) ())) ())) ())) := by rw [awp_eq]; kernel_rfl
noncomputable def c50_6 : Code := cr c50_4
theorem w50_6 : awp X n c50_6 Q st = Q .ret st := by rw [awp_eq]; kernel_rfl
theorem w50_4 : awp X n c50_4 Q st = awp X n c50_5 (thenQ (awp X n c50_6 Q) Q) st := by rw [awp_eq]; kernel_rfl
theorem w50_2 : awp X n c50_2 Q st = awp X n c50_3 (thenQ (awp X n c50_4 Q) Q) st := by rw [awp_eq]; kernel_rfl
theorem w50_0 : awp X n c50_0 Q st = awp X n c50_1 (thenQ (awp X n c50_2 Q) Q) st := by rw [awp_eq]; kernel_rfl
theorem q50_ret : retQ X Tryd.f50 K .ret ((a0::a1::a2::a3::a4::a5::a6::a7::a8::a9::b0::b1::b2::b3::b4::b5::[]), h) = (K.K a4 h) := by kernel_rfl
theorem q50_normal : retQ X Tryd.f50 K .normal ((a0::a1::a2::a3::a4::a5::a6::a7::a8::a9::b0::b1::b2::b3::b4::b5::[]), h) = (K.K a4 h) := by kernel_rfl
theorem i50 (H : awp X h.length c50_0 (retQ X Tryd.f50 K) ((a0::a1::.bad::.bad::.bad::.bad::.bad::.bad::.bad::.bad::.bad::.bad::.bad::.bad::.bad::.bad::[]), h)) : ACall X 50 [a0, a1] h K := acall_intro (fn := Tryd.f50) (by kernel_rfl) (by kernel_rfl) (by kernel_rfl) H
noncomputable def R50 := And.intro (And.intro (And.intro w50_1 w50_3) (And.intro w50_5 w50_6)) (And.intro (And.intro w50_4 w50_2) (And.intro (w50_0) (And.intro q50_ret q50_normal)))
/-! function 51: (*sindri/sindriref01.C).Fail -/
noncomputable def c51_0 : Code := bodyOf Tryd.f51
noncomputable def c51_1 : Code := cl c51_0
theorem w51_1 : awp X n c51_1 Q ((a0::a1::a2::a3::a4::a5::a6::a7::a8::a9::b0::b1::b2::[]), h) = (a_mov a0 h (.c (fun t4 h1 => a_nilc t4 h1 (.c (fun t5 h2 => a_fa 2 t5 h2 (.c (fun t6 h3 => a_load 1 false t6 h3 (.c (fun t7 h4 => a_bin .eql t7 (.v (.int .i64 0)) h4 (.c (fun t8 h5 => Q .normal ((a0::a1::a2::a3::t4::t5::t6::t7::t8::a9::b0::b1::b2::[]), h5)) ())) ())) ())) ())) ())) := by rw [awp_eq]; kernel_rfl
noncomputable def c51_2 : Code := cr c51_0
noncomputable def c51_3 : Code := cl c51_2
theorem w51_3 : awp X n c51_3 Q ((a0::a1::a2::a3::a4::a5::a6::a7::a8::a9::b0::b1::b2::[]), h) = (a_mov a0 h (.c (fun t9 h1 => a_mov a1 h1 (.c (fun t10 h2 => a_nilc t9 h2 (.c (fun t11 h3 => a_fa 2 t11 h3 (.c (fun t12 h4 => a_store 1 t12 t10 h4 (.c (fun _v4 h5 => Q .normal ((a0::a1::a2::a3::a4::a5::a6::a7::a8::t9::t10::t11::t12::[]), h5)) ())) ())) ())) ())) ())) := by rw [awp_eq]; kernel_rfl
noncomputable def c51_4 : Code := cr c51_2
theorem w51_4 : awp X n c51_4 Q st = Q .normal st := by rw [awp_eq]; kernel_rfl
theorem w51_2 : awp X n c51_2 Q ((a0::a1::a2::a3::a4::a5::a6::a7::a8::a9::b0::b1::b2::[]), h) = a_cond a8 (awp X n c51_3 Q ((a0::a1::a2::a3::a4::a5::a6::a7::a8::a9::b0::b1::b2::[]), h)) (awp X n c51_4 Q ((a0::a1::a2::a3::a4::a5::a6::a7::a8::a9::b0::b1::b2::[]), h)) := by rw [awp_eq]; kernel_rfl
theorem w51_0 : awp X n c51_0 Q st = awp X n c51_1 (thenQ (awp X n c51_2 Q) Q) st := by rw [awp_eq]; kernel_rfl
theorem q51_ret : retQ X Tryd.f51 K .ret ((a0::a1::a2::a3::a4::a5::a6::a7::a8::a9::b0::b1::b2::[]), h) = (K.K (.t []) h) := by kernel_rfl
theorem q51_normal : retQ X Tryd.f51 K .normal ((a0::a1::a2::a3::a4::a5::a6::a7::a8::a9::b0::b1::b2::[]), h) = (K.K (.t []) h) := by kernel_rfl
theorem i51 (H : awp X h.length c51_0 (retQ X Tryd.f51 K) ((a0::a1::.bad::.bad::.bad::.bad::.bad::.bad::.bad::.bad::.bad::.bad::.bad::[]), h)) : ACall X 51 [a0, a1] h K := acall_intro (fn := Tryd.f51) (by kernel_rfl) (by kernel_rfl) (by kernel_rfl) H
noncomputable def R51 := And.intro (And.intro (w51_1) (And.intro w51_3 w51_4)) (And.intro (And.intro w51_2 w51_0) (And.intro q51_ret q51_normal))
/-! function 52: (*sindri/sindriref01.C).Bytes -/
noncomputable def c52_0 : Code := bodyOf Tryd.f52
noncomputable def c52_1 : Code := cl c52_0
theorem w52_1 : awp X n c52_1 Q ((a0::a1::a2::a3::a4::a5::a6::a7::a8::a9::b0::b1::b2::b3::b4::b5::b6::b7::b8::b9::d0::d1::d2::d3::d4::d5::d6::d7::d8::d9::e0::e1::e2::e3::e4::e5::e6::e7::e8::e9::f0::f1::f2::f3::f4::f5::f6::f7::f8::f9::g0::g1::g2::g3::g4::[]), h) = (a_mov (.v (.slice none 0 0)) h (.c (fun t4 h1 => Q .normal ((a0::a1::a2::a3::t4::a5::a6::a7::a8::a9::b0::b1::b2::b3::b4::b5::b6::b7::b8::b9::d0::d1::d2::d3::d4::d5::d6::d7::d8::d9::e0::e1::e2::e3::e4::e5::e6::e7::e8::e9::f0::f1::f2::f3::f4::f5::f6::f7::f8::f9::g0::g1::g2::g3::g4::[]), h1)) ())) := by rw [awp_eq]; kernel_rfl
noncomputable def c52_2 : Code := cr c52_0
noncomputable def c52_3 : Code := cl c52_2
noncomputable def c52_4 : Code := cl c52_3
theorem w52_4 : awp X n c52_4 Q ((a0::a1::a2::a3::a4::a5::a6::a7::a8::a9::b0::b1::b2::b3::b4::b5::b6::b7::b8::b9::d0::d1::d2::d3::d4::d5::d6::d7::d8::d9::e0::e1::e2::e3::e4::e5::e6::e7::e8::e9::f0::f1::f2::f3::f4::f5::f6::f7::f8::f9::g0::g1::g2::g3::g4::[]), h) = (a_mov a0 h (.c (fun t6 h1 => a_nilc t6 h1 (.c (fun t7 h2 => a_fa 2 t7 h2 (.c (fun t8 h3 => a_load 1 false t8 h3 (.c (fun t9 h4 => a_bin .eql t9 (.v (.int .i64 0)) h4 (.c (fun t10 h5 => a_mov t10 h5 (.c (fun t11 h6 => a_on t11 true (fun k => a_mov a1 h6 k) h6 (.c (fun t12 h7 => a_on t11 true (fun k => a_mov a0 h7 k) h7 (.c (fun t13 h8 => a_on t11 true (fun k => ACall X 44 [t13] h8 k) h8 (.c (fun t14 h9 => a_on t11 true (fun k => a_cint .u64 t14 h9 k) h9 (.c (fun t15 h10 => a_on t11 true (fun k => a_bin .gtr t12 t15 h10 k) h10 (.c (fun t16 h11 => a_pick t11 t16 (.v (.bool false)) h11 (.c (fun t17 h12 => Q .normal ((a0::a1::a2::a3::a4::a5::t6::t7::t8::t9::t10::t11::t12::t13::t14::t15::t16::t17::b8::b9::d0::d1::d2::d3::d4::d5::d6::d7::d8::d9::e0::e1::e2::e3::e4::e5::e6::e7::e8::e9::f0::f1::f2::f3::f4::f5::f6::f7::f8::f9::g0::g1::g2::g3::g4::[]), h12)) ())) ())) ())) ())) ())) ())) ())) ())) ())) ())) ())) ())) := by rw [awp_eq]; kernel_rfl
noncomputable def c52_5 : Code := cr c52_3
noncomputable def c52_6 : Code := cl c52_5
theorem w52_6 : awp X n c52_6 Q ((a0::a1::a2::a3::a4::a5::a6::a7::a8::a9::b0::b1::b2::b3::b4::b5::b6::b7::b8::b9::d0::d1::d2::d3::d4::d5::d6::d7::d8::d9::e0::e1::e2::e3::e4::e5::e6::e7::e8::e9::f0::f1::f2::f3::f4::f5::f6::f7::f8::f9::g0::g1::g2::g3::g4::[]), h) = (a_mov a0 h (.c (fun t18 h1 => a_nilc t18 h1 (.c (fun t19 h2 => a_fa 2 t19 h2 (.c (fun t20 h3 => a_store 1 t20 (.v (.int .i64 10)) h3 (.c (fun _v3 h4 => Q .normal ((a0::a1::a2::a3::a4::a5::a6::a7::a8::a9::b0::b1::b2::b3::b4::b5::b6::b7::t18::t19::t20::d1::d2::d3::d4::d5::d6::d7::d8::d9::e0::e1::e2::e3::e4::e5::e6::e7::e8::e9::f0::f1::f2::f3::f4::f5::f6::f7::f8::f9::g0::g1::g2::g3::g4::[]), h4)) ())) ())) ())) ())) := by rw [awp_eq]; kernel_rfl
noncomputable def c52_7 : Code := cr c52_5
theorem w52_7 : awp X n c52_7 Q st = Q .normal st := by rw [awp_eq]; kernel_rfl
theorem w52_5 : awp X n c52_5 Q ((a0::a1::a2::a3::a4::a5::a6::a7::a8::a9::b0::b1::b2::b3::b4::b5::b6::b7::b8::b9::d0::d1::d2::d3::d4::d5::d6::d7::d8::d9::e0::e1::e2::e3::e4::e5::e6::e7::e8::e9::f0::f1::f2::f3::f4::f5::f6::f7::f8::f9::g0::g1::g2::g3::g4::[]), h) = a_cond b7 (awp X n c52_6 Q ((a0::a1::a2::a3::a4::a5::a6::a7::a8::a9::b0::b1::b2::b3::b4::b5::b6::b7::b8::b9::d0::d1::d2::d3::d4::d5::d6::d7::d8::d9::e0::e1::e2::e3::e4::e5::e6::e7::e8::e9::f0::f1::f2::f3::f4::f5::f6::f7::f8::f9::g0::g1::g2::g3::g4::[]), h)) (awp X n c52_7 Q ((a0::a1::a2::a3::a4::a5::a6::a7::a8::a9::b0::b1::b2::b3::b4::b5::b6::b7::b8::b9::d0::d1::d2::d3::d4::d5::d6::d7::d8::d9::e0::e1::e2::e3::e4::e5::e6::e7::e8::e9::f0::f1::f2::f3::f4::f5::f6::f7::f8::f9::g0::g1::g2::g3::g4::[]), h)) := by rw [awp_eq]; kernel_rfl
theorem w52_3 : awp X n c52_3 Q st = awp X n c52_4 (thenQ (awp X n c52_5 Q) Q) st := by rw [awp_eq]; kernel_rfl
noncomputable def c52_8 : Code := cr c52_2
noncomputable def c52_9 : Code := cl c52_8
noncomputable def c52_10 : Code := cl c52_9
theorem w52_10 : awp X n c52_10 Q ((a0::a1::a2::a3::a4::a5::a6::a7::a8::a9::b0::b1::b2::b3::b4::b5::b6::b7::b8::b9::d0::d1::d2::d3::d4::d5::d6::d7::d8::d9::e0::e1::e2::e3::e4::e5::e6::e7::e8::e9::f0::f1::f2::f3::f4::f5::f6::f7::f8::f9::g0::g1::g2::g3::g4::[]), h) = (a_mov a0 h (.c (fun t21 h1 => a_nilc t21 h1 (.c (fun t22 h2 => a_fa 2 t22 h2 (.c (fun t23 h3 => a_load 1 false t23 h3 (.c (fun t24 h4 => a_bin .neq t24 (.v (.int .i64 0)) h4 (.c (fun t25 h5 => Q .normal ((a0::a1::a2::a3::a4::a5::a6::a7::a8::a9::b0::b1::b2::b3::b4::b5::b6::b7::b8::b9::d0::t21::t22::t23::t24::t25::d6::d7::d8::d9::e0::e1::e2::e3::e4::e5::e6::e7::e8::e9::f0::f1::f2::f3::f4::f5::f6::f7::f8::f9::g0::g1::g2::g3::g4::[]), h5)) ())) ())) ())) ())) ())) := by rw [awp_eq]; kernel_rfl
noncomputable def c52_11 : Code := cr c52_9
noncomputable def c52_12 : Code := cl c52_11
noncomputable def c52_13 : Code := cl c52_12
theorem w52_13 : awp X n c52_13 Q ((a0::a1::a2::a3::a4::a5::a6::a7::a8::a9::b0::b1::b2::b3::b4::b5::b6::b7::b8::b9::d0::d1::d2::d3::d4::d5::d6::d7::d8::d9::e0::e1::e2::e3::e4::e5::e6::e7::e8::e9::f0::f1::f2::f3::f4::f5::f6::f7::f8::f9::g0::g1::g2::g3::g4::[]), h) = (a_mov (.v (.slice none 0 0)) h (.c (fun t4 h1 => Q .normal ((a0::a1::a2::a3::t4::a5::a6::a7::a8::a9::b0::b1::b2::b3::b4::b5::b6::b7::b8::b9::d0::d1::d2::d3::d4::d5::d6::d7::d8::d9::e0::e1::e2::e3::e4::e5::e6::e7::e8::e9::f0::f1::f2::f3::f4::f5::f6::f7::f8::f9::g0::g1::g2::g3::g4::[]), h1)) ())) := by rw [awp_eq]; kernel_rfl
noncomputable def c52_14 : Code := cr c52_12
theorem w52_14 : awp X n c52_14 Q st = Q .ret st := by rw [awp_eq]; kernel_rfl
theorem w52_12 : awp X n c52_12 Q st = awp X n c52_13 (thenQ (awp X n c52_14 Q) Q) st := by rw [awp_eq]; kernel_rfl
noncomputable def c52_15 : Code := cr c52_11
theorem w52_15 : awp X n c52_15 Q st = Q .normal st := by rw [awp_eq]; kernel_rfl
theorem w52_11 : awp X n c52_11 Q ((a0::a1::a2::a3::a4::a5::a6::a7::a8::a9::b0::b1::b2::b3::b4::b5::b6::b7::b8::b9::d0::d1::d2::d3::d4::d5::d6::d7::d8::d9::e0::e1::e2::e3::e4::e5::e6::e7::e8::e9::f0::f1::f2::f3::f4::f5::f6::f7::f8::f9::g0::g1::g2::g3::g4::[]), h) = a_cond d5 (awp X n c52_12 Q ((a0::a1::a2::a3::a4::a5::a6::a7::a8::a9::b0::b1::b2::b3::b4::b5::b6::b7::b8::b9::d0::d1::d2::d3::d4::d5::d6::d7::d8::d9::e0::e1::e2::e3::e4::e5::e6::e7::e8::e9::f0::f1::f2::f3::f4::f5::f6::f7::f8::f9::g0::g1::g2::g3::g4::[]), h)) (awp X n c52_15 Q ((a0::a1::a2::a3::a4::a5::a6::a7::a8::a9::b0::b1::b2::b3::b4::b5::b6::b7::b8::b9::d0::d1::d2::d3::d4::d5::d6::d7::d8::d9::e0::e1::e2::e3::e4::e5::e6::e7::e8::e9::f0::f1::f2::f3::f4::f5::f6::f7::f8::f9::g0::g1::g2::g3::g4::[]), h)) := by rw [awp_eq]; kernel_rfl
theorem w52_9 : awp X n c52_9 Q st = awp X n c52_10 (thenQ (awp X n c52_11 Q) Q) st := by rw [awp_eq]; kernel_rfl
noncomputable def c52_16 : Code := cr c52_8
noncomputable def c52_17 : Code := cl c52_16
theorem w52_17 : awp X n c52_17 Q ((a0::a1::a2::a3::a4::a5::a6::a7::a8::a9::b0::b1::b2::b3::b4::b5::b6::b7::b8::b9::d0::d1::d2::d3::d4::d5::d6::d7::d8::d9::e0::e1::e2::e3::e4::e5::e6::e7::e8::e9::f0::f1::f2::f3::f4::f5::f6::f7::f8::f9::g0::g1::g2::g3::g4::[]), h) = (a_mov a0 h (.c (fun t27 h1 => a_nilc t27 h1 (.c (fun t28 h2 => a_fa 0 t28 h2 (.c (fun t29 h3 => a_load 1 false t29 h3 (.c (fun t30 h4 => a_mov a0 h4 (.c (fun t31 h5 => a_nilc t31 h5 (.c (fun t32 h6 => a_fa 1 t32 h6 (.c (fun t33 h7 => a_load 1 false t33 h7 (.c (fun t34 h8 => a_mov a0 h8 (.c (fun t35 h9 => a_nilc t35 h9 (.c (fun t36 h10 => a_fa 1 t36 h10 (.c (fun t37 h11 => a_load 1 false t37 h11 (.c (fun t38 h12 => a_mov a1 h12 (.c (fun t39 h13 => a_cint .i64 t39 h13 (.c (fun t40 h14 => a_bin .add t38 t40 h14 (.c (fun t41 h15 => a_slice 1 t30 (some t34) (some t41) none h15 (.c (fun t42 h16 => a_lit 1 0 [] [] h16 (.c (fun t26 h17 => conj [a_slice 1 t30 (some t34) (some t41) none h17 (.c (fun v_ _ => v_ = t42) ()), a_load 1 false t37 h17 (.c (fun v_ _ => v_ = t38) ()), a_load 1 false t33 h17 (.c (fun v_ _ => v_ = t34) ()), a_load 1 false t29 h17 (.c (fun v_ _ => v_ = t30) ())] ∧ (a_app 1 1 t26 t42 h17 (.c (fun t43 h18 => conj [] ∧ (a_mov t43 h18 (.c (fun t5 h19 => Q .normal ((a0::a1::a2::a3::a4::t5::a6::a7::a8::a9::b0::b1::b2::b3::b4::b5::b6::b7::b8::b9::d0::d1::d2::d3::d4::d5::t26::t27::t28::t29::t30::t31::t32::t33::t34::t35::t36::t37::t38::t39::t40::t41::t42::t43::f4::f5::f6::f7::f8::f9::g0::g1::g2::g3::g4::[]), h19)) ()))) ()))) ())) ())) ())) ())) ())) ())) ())) ())) ())) ())) ())) ())) ())) ())) ())) ())) ())) := by rw [awp_eq]; kernel_rfl
noncomputable def c52_18 : Code := cr c52_16
noncomputable def c52_19 : Code := cl c52_18
theorem w52_19 : awp X n c52_19 Q ((a0::a1::a2::a3::a4::a5::a6::a7::a8::a9::b0::b1::b2::b3::b4::b5::b6::b7::b8::b9::d0::d1::d2::d3::d4::d5::d6::d7::d8::d9::e0::e1::e2::e3::e4::e5::e6::e7::e8::e9::f0::f1::f2::f3::f4::f5::f6::f7::f8::f9::g0::g1::g2::g3::g4::[]), h) = (a_mov a0 h (.c (fun t44 h1 => a_mov a0 h1 (.c (fun t45 h2 => a_nilc t45 h2 (.c (fun t46 h3 => a_fa 1 t46 h3 (.c (fun t47 h4 => a_load 1 false t47 h4 (.c (fun t48 h5 => a_mov a1 h5 (.c (fun t49 h6 => a_cint .i64 t49 h6 (.c (fun t50 h7 => a_bin .add t48 t50 h7 (.c (fun t51 h8 => a_nilc t44 h8 (.c (fun t52 h9 => a_fa 1 t52 h9 (.c (fun t53 h10 => a_store 1 t53 t51 h10 (.c (fun _v10 h11 => Q .normal ((a0::a1::a2::a3::a4::a5::a6::a7::a8::a9::b0::b1::b2::b3::b4::b5::b6::b7::b8::b9::d0::d1::d2::d3::d4::d5::d6::d7::d8::d9::e0::e1::e2::e3::e4::e5::e6::e7::e8::e9::f0::f1::f2::f3::t44::t45::t46::t47::t48::t49::t50::t51::t52::t53::g4::[]), h11)) ())) ())) ())) ())) ())) ())) ())) ())) ())) ())) ())) := by rw [awp_eq]; kernel_rfl
noncomputable def c52_20 : Code := cr c52_18
noncomputable def c52_21 : Code := cl c52_20
theorem w52_21 : awp X n c52_21 Q ((a0::a1::a2::a3::a4::a5::a6::a7::a8::a9::b0::b1::b2::b3::b4::b5::b6::b7::b8::b9::d0::d1::d2::d3::d4::d5::d6::d7::d8::d9::e0::e1::e2::e3::e4::e5::e6::e7::e8::e9::f0::f1::f2::f3::f4::f5::f6::f7::f8::f9::g0::g1::g2::g3::g4::[]), h) = (a_mov a5 h (.c (fun t54 h1 => a_mov t54 h1 (.c (fun t4 h2 => Q .normal ((a0::a1::a2::a3::t4::a5::a6::a7::a8::a9::b0::b1::b2::b3::b4::b5::b6::b7::b8::b9::d0::d1::d2::d3::d4::d5::d6::d7::d8::d9::e0::e1::e2::e3::e4::e5::e6::e7::e8::e9::f0::f1::f2::f3::f4::f5::f6::f7::f8::f9::g0::g1::g2::g3::t54::[]), h2)) ())) ())) := by rw [awp_eq]; kernel_rfl
noncomputable def c52_22 : Code := cr c52_20
theorem w52_22 : awp X n c52_22 Q st = Q .ret st := by rw [awp_eq]; kernel_rfl
theorem w52_20 : awp X n c52_20 Q st = awp X n c52_21 (thenQ (awp X n c52_22 Q) Q) st := by rw [awp_eq]; kernel_rfl
theorem w52_18 : awp X n c52_18 Q st = awp X n c52_19 (thenQ (awp X n c52_20 Q) Q) st := by rw [awp_eq]; kernel_rfl
theorem w52_16 : awp X n c52_16 Q st = awp X n c52_17 (thenQ (awp X n c52_18 Q) Q) st := by rw [awp_eq]; kernel_rfl
theorem w52_8 : awp X n c52_8 Q st = awp X n c52_9 (thenQ (awp X n c52_16 Q) Q) st := by rw [awp_eq]; kernel_rfl
theorem w52_2 : awp X n c52_2 Q st = awp X n c52_3 (thenQ (awp X n c52_8 Q) Q) st := by rw [awp_eq]; kernel_rfl
theorem w52_0 : awp X n c52_0 Q st = awp X n c52_1 (thenQ (awp X n c52_2 Q) Q) st := by rw [awp_eq]; kernel_rfl
theorem q52_ret : retQ X Tryd.f52 K .ret ((a0::a1::a2::a3::a4::a5::a6::a7::a8::a9::b0::b1::b2::b3::b4::b5::b6::b7::b8::b9::d0::d1::d2::d3::d4::d5::d6::d7::d8::d9::e0::e1::e2::e3::e4::e5::e6::e7::e8::e9::f0::f1::f2::f3::f4::f5::f6::f7::f8::f9::g0::g1::g2::g3::g4::[]), h) = (K.K a4 h) := by kernel_rfl
theorem q52_normal : retQ X Tryd.f52 K .normal ((a0::a1::a2::a3::a4::a5::a6::a7::a8::a9::b0::b1::b2::b3::b4::b5::b6::b7::b8::b9::d0::d1::d2::d3::d4::d5::d6::d7::d8::d9::e0::e1::e2::e3::e4::e5::e6::e7::e8::e9::f0::f1::f2::f3::f4::f5::f6::f7::f8::f9::g0::g1::g2::g3::g4::[]), h) = (K.K a4 h) := by kernel_rfl
theorem i52 (H : awp X h.length c52_0 (retQ X Tryd.f52 K) ((a0::a1::.bad::.bad::.bad::.bad::.bad::.bad::.bad::.bad::.bad::.bad::.bad::.bad::.bad::.bad::.bad::.bad::.bad::.bad::.bad::.bad::.bad::.bad::.bad::.bad::.bad::.bad::.bad::.bad::.bad::.bad::.bad::.bad::.bad::.bad::.bad::.bad::.bad::.bad::.bad::.bad::.bad::.bad::.bad::.bad::.bad::.bad::.bad::.bad::.bad::.bad::.bad::.bad::.bad::[]), h)) : ACall X 52 [a0, a1] h K := acall_intro (fn := Tryd.f52) (by kernel_rfl) (by kernel_rfl) (by kernel_rfl) H
noncomputable def R52 := And.intro (And.intro (And.intro (And.intro (w52_1) (And.intro w52_4 w52_6)) (And.intro (w52_7) (And.intro w52_5 w52_3))) (And.intro (And.intro (w52_10) (And.intro w52_13 w52_14)) (And.intro (w52_12) (And.intro w52_15 w52_11)))) (And.intro (And.intro (And.intro (w52_9) (And.intro w52_17 w52_19)) (And.intro (w52_21) (And.intro w52_22 w52_20))) (And.intro (And.intro (w52_18) (And.intro w52_16 w52_8)) (And.intro (And.intro w52_2 w52_0) (And.intro q52_ret q52_normal))))
/-! function 31: sindri/sindriref01.Put -/
noncomputable def c31_0 : Code := bodyOf Tryd.f31
noncomputable def c31_1 : Code := cl c31_0
theorem w31_1 : awp X n c31_1 Q ((a0::a1::a2::a3::a4::a5::a6::a7::a8::a9::b0::b1::b2::b3::b4::b5::b6::b7::b8::b9::d0::d1::[]), h) = (a_mov (.v (.slice none 0 0)) h (.c (fun t4 h1 => Q .normal ((a0::a1::a2::a3::t4::a5::a6::a7::a8::a9::b0::b1::b2::b3::b4::b5::b6::b7::b8::b9::d0::d1::[]), h1)) ())) := by rw [awp_eq]; kernel_rfl
noncomputable def c31_2 : Code := cr c31_0
noncomputable def c31_3 : Code := cl c31_2
theorem w31_3 : awp X n c31_3 Q ((a0::a1::a2::a3::a4::a5::a6::a7::a8::a9::b0::b1::b2::b3::b4::b5::b6::b7::b8::b9::d0::d1::[]), h) = (a_mov (.v (.slice none 0 0)) h (.c (fun t5 h1 => Q .normal ((a0::a1::a2::a3::a4::t5::a6::a7::a8::a9::b0::b1::b2::b3::b4::b5::b6::b7::b8::b9::d0::d1::[]), h1)) ())) := by rw [awp_eq]; kernel_rfl
noncomputable def c31_4 : Code := cr c31_2
noncomputable def c31_5 : Code := cl c31_4
noncomputable def c31_6 : Code := cl c31_5
theorem w31_6 : awp X n c31_6 Q ((a0::a1::a2::a3::a4::a5::a6::a7::a8::a9::b0::b1::b2::b3::b4::b5::b6::b7::b8::b9::d0::d1::[]), h) = (a_mov (.v (.int .i64 0)) h (.c (fun t6 h1 => Q .normal ((a0::a1::a2::a3::a4::a5::t6::a7::a8::a9::b0::b1::b2::b3::b4::b5::b6::b7::b8::b9::d0::d1::[]), h1)) ())) := by rw [awp_eq]; kernel_rfl
noncomputable def c31_7 : Code := cr c31_5
noncomputable def c31_8 : Code := cl c31_7
noncomputable def c31_9 : Code := cl c31_8
noncomputable def c31_10 : Code := cl c31_9
noncomputable def c31_11 : Code := cl c31_10
theorem w31_11 : awp X n c31_11 Q ((a0::a1::a2::a3::a4::a5::a6::a7::a8::a9::b0::b1::b2::b3::b4::b5::b6::b7::b8::b9::d0::d1::[]), h) = (a_mov a6 h (.c (fun t7 h1 => a_mov a1 h1 (.c (fun t8 h2 => ACall X 47 [t8] h2 (.c (fun t9 h3 => a_bin .lss t7 t9 h3 (.c (fun t10 h4 => Q .normal ((a0::a1::a2::a3::a4::a5::a6::t7::t8::t9::t10::b1::b2::b3::b4::b5::b6::b7::b8::b9::d0::d1::[]), h4)) ())) ())) ())) ())) := by rw [awp_eq]; kernel_rfl
noncomputable def c31_12 : Code := cr c31_10
noncomputable def c31_13 : Code := cl c31_12
theorem w31_13 : awp X n c31_13 Q st = Q .normal st := by rw [awp_eq]; kernel_rfl
noncomputable def c31_14 : Code := cr c31_12
theorem w31_14 : awp X n c31_14 Q st = Q (.exit 0) st := by rw [awp_eq]; kernel_rfl
theorem w31_12 : awp X n c31_12 Q ((a0::a1::a2::a3::a4::a5::a6::a7::a8::a9::b0::b1::b2::b3::b4::b5::b6::b7::b8::b9::d0::d1::[]), h) = a_cond b0 (awp X n c31_13 Q ((a0::a1::a2::a3::a4::a5::a6::a7::a8::a9::b0::b1::b2::b3::b4::b5::b6::b7::b8::b9::d0::d1::[]), h)) (awp X n c31_14 Q ((a0::a1::a2::a3::a4::a5::a6::a7::a8::a9::b0::b1::b2::b3::b4::b5::b6::b7::b8::b9::d0::d1::[]), h)) := by rw [awp_eq]; kernel_rfl
theorem w31_10 : awp X n c31_10 Q st = awp X n c31_11 (thenQ (awp X n c31_12 Q) Q) st := by rw [awp_eq]; kernel_rfl
noncomputable def c31_15 : Code := cr c31_9
noncomputable def c31_16 : Code := cl c31_15
noncomputable def c31_17 : Code := cl c31_16
noncomputable def c31_18 : Code := cl c31_17
theorem w31_18 : awp X n c31_18 Q ((a0::a1::a2::a3::a4::a5::a6::a7::a8::a9::b0::b1::b2::b3::b4::b5::b6::b7::b8::b9::d0::d1::[]), h) = (a_mov a5 h (.c (fun t13 h1 => a_mov a0 h1 (.c (fun t14 h2 => a_bin .rem t14 (.v (.int .u64 256)) h2 (.c (fun t15 h3 => a_cint .u8 t15 h3 (.c (fun t16 h4 => a_lit 1 1 [.v (.int .u8 0)] [(0, 1, t16)] h4 (.c (fun t17 h5 => a_app 1 1 t13 t17 h5 (.c (fun t18 h6 => a_mov t18 h6 (.c (fun t5 h7 => Q .normal ((a0::a1::a2::a3::a4::t5::a6::a7::a8::a9::b0::b1::b2::t13::t14::t15::t16::t17::t18::b9::d0::d1::[]), h7)) ())) ())) ())) ())) ())) ())) ())) := by rw [awp_eq]; kernel_rfl
noncomputable def c31_19 : Code := cr c31_17
theorem w31_19 : awp X n c31_19 Q ((a0::a1::a2::a3::a4::a5::a6::a7::a8::a9::b0::b1::b2::b3::b4::b5::b6::b7::b8::b9::d0::d1::[]), h) = (a_mov a0 h (.c (fun t19 h1 => a_bin .quo t19 (.v (.int .u64 256)) h1 (.c (fun t20 h2 => a_mov t20 h2 (.c (fun t0 h3 => Q .normal ((t0::a1::a2::a3::a4::a5::a6::a7::a8::a9::b0::b1::b2::b3::b4::b5::b6::b7::b8::t19::t20::d1::[]), h3)) ())) ())) ())) := by rw [awp_eq]; kernel_rfl
theorem w31_17 : awp X n c31_17 Q st = awp X n c31_18 (thenQ (awp X n c31_19 Q) Q) st := by rw [awp_eq]; kernel_rfl
theorem w31_16 : awp X n c31_16 Q st = awp X n c31_17 (blockQ 1 Q) st := by rw [awp_eq]; kernel_rfl
noncomputable def c31_20 : Code := cr c31_15
theorem w31_20 : awp X n c31_20 Q ((a0::a1::a2::a3::a4::a5::a6::a7::a8::a9::b0::b1::b2::b3::b4::b5::b6::b7::b8::b9::d0::d1::[]), h) = (a_mov a6 h (.c (fun t11 h1 => a_bin .add t11 (.v (.int .i64 1)) h1 (.c (fun t12 h2 => a_mov t12 h2 (.c (fun t6 h3 => Q .normal ((a0::a1::a2::a3::a4::a5::t6::a7::a8::a9::b0::t11::t12::b3::b4::b5::b6::b7::b8::b9::d0::d1::[]), h3)) ())) ())) ())) := by rw [awp_eq]; kernel_rfl
theorem w31_15 : awp X n c31_15 Q st = awp X n c31_16 (thenQ (awp X n c31_20 Q) Q) st := by rw [awp_eq]; kernel_rfl
theorem w31_9 : awp X n c31_9 Q st = awp X n c31_10 (thenQ (awp X n c31_15 Q) Q) st := by rw [awp_eq]; kernel_rfl
theorem w31_8 : awp X n c31_8 Q st = ALoop X n c31_9 Q st := by rw [awp_eq]; kernel_rfl
theorem w31_7 : awp X n c31_7 Q st = awp X n c31_8 (blockQ 0 Q) st := by rw [awp_eq]; kernel_rfl
theorem w31_5 : awp X n c31_5 Q st = awp X n c31_6 (thenQ (awp X n c31_7 Q) Q) st := by rw [awp_eq]; kernel_rfl
noncomputable def c31_21 : Code := cr c31_4
noncomputable def c31_22 : Code := cl c31_21
theorem w31_22 : awp X n c31_22 Q ((a0::a1::a2::a3::a4::a5::a6::a7::a8::a9::b0::b1::b2::b3::b4::b5::b6::b7::b8::b9::d0::d1::[]), h) = (a_mov a5 h (.c (fun t21 h1 => a_mov t21 h1 (.c (fun t4 h2 => Q .normal ((a0::a1::a2::a3::t4::a5::a6::a7::a8::a9::b0::b1::b2::b3::b4::b5::b6::b7::b8::b9::d0::t21::[]), h2)) ())) ())) := by rw [awp_eq]; kernel_rfl
noncomputable def c31_23 : Code := cr c31_21
theorem w31_23 : awp X n c31_23 Q st = Q .ret st := by rw [awp_eq]; kernel_rfl
theorem w31_21 : awp X n c31_21 Q st = awp X n c31_22 (thenQ (awp X n c31_23 Q) Q) st := by rw [awp_eq]; kernel_rfl
theorem w31_4 : awp X n c31_4 Q st = awp X n c31_5 (thenQ (awp X n c31_21 Q) Q) st := by rw [awp_eq]; kernel_rfl
theorem w31_2 : awp X n c31_2 Q st = awp X n c31_3 (thenQ (awp X n c31_4 Q) Q) st := by rw [awp_eq]; kernel_rfl
theorem w31_0 : awp X n c31_0 Q st = awp X n c31_1 (thenQ (awp X n c31_2 Q) Q) st := by rw [awp_eq]; kernel_rfl
theorem q31_ret : retQ X Tryd.f31 K .ret ((a0::a1::a2::a3::a4::a5::a6::a7::a8::a9::b0::b1::b2::b3::b4::b5::b6::b7::b8::b9::d0::d1::[]), h) = (K.K a4 h) := by kernel_rfl
theorem q31_normal : retQ X Tryd.f31 K .normal ((a0::a1::a2::a3::a4::a5::a6::a7::a8::a9::b0::b1::b2::b3::b4::b5::b6::b7::b8::b9::d0::d1::[]), h) = (K.K a4 h) := by kernel_rfl
theorem i31 (H : awp X h.length c31_0 (retQ X Tryd.f31 K) ((a0::a1::.bad::.bad::.bad::.bad::.bad::.bad::.bad::.bad::.bad::.bad::.bad::.bad::.bad::.bad::.bad::.bad::.bad::.bad::.bad::.bad::[]), h)) : ACall X 31 [a0, a1] h K := acall_intro (fn := Tryd.f31) (by kernel_rfl) (by kernel_rfl) (by kernel_rfl) H
noncomputable def R31 := And.intro (And.intro (And.intro (And.intro (w31_1) (And.intro w31_3 w31_6)) (And.intro (w31_11) (And.intro w31_13 w31_14))) (And.intro (And.intro (w31_12) (And.intro w31_10 w31_18)) (And.intro (And.intro w31_19 w31_17) (And.intro w31_16 w31_20)))) (And.intro (And.intro (And.intro (w31_15) (And.intro w31_9 w31_8)) (And.intro (w31_7) (And.intro w31_5 w31_22))) (And.intro (And.intro (w31_23) (And.intro w31_21 w31_4)) (And.intro (And.intro w31_2 w31_0) (And.intro q31_ret q31_normal))))
end Go.Proofs.YtmjjfchahkdceaaDoor
