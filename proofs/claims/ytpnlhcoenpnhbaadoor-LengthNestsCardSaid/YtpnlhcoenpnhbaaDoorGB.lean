import Derived.Test.YtpnlhcoenpnhbaaDoorEnv
set_option linter.unusedVariables false
set_option maxRecDepth 100000
namespace Go.Proofs.YtpnlhcoenpnhbaaDoor
open Go.Ab
/-! function 8: sindri/length.Put -/
noncomputable def c8_0 : Code := bodyOf Tryd.f8
noncomputable def c8_1 : Code := cl c8_0
theorem w8_1 (s0 s1 s2 s3 s4 s5 s6 s7 s8 s9 s10 s11 s12 s13 s14 s15 s16 s17 s18 s19 s20 s21 s22 s23 : AV) (n : Nat) (h : Heap) (Q : Qt) : awp X n c8_1 Q ((s0 :: s1 :: s2 :: s3 :: s4 :: s5 :: s6 :: s7 :: s8 :: s9 :: s10 :: s11 :: s12 :: s13 :: s14 :: s15 :: s16 :: s17 :: s18 :: s19 :: s20 :: s21 :: s22 :: s23 :: []), h) = (a_mov (.v (.slice none 0 0)) h (.c (fun t6 h1 => a_mov (.v (.int .i64 0)) h1 (.c (fun t7 h2 => Q .normal ((s0 :: s1 :: s2 :: s3 :: s4 :: s5 :: t6 :: t7 :: s8 :: s9 :: s10 :: s11 :: s12 :: s13 :: s14 :: s15 :: s16 :: s17 :: s18 :: s19 :: s20 :: s21 :: s22 :: s23 :: []), h2)) ())) ())) := by rw [awp_eq]; kernel_rfl
noncomputable def c8_2 : Code := cr c8_0
noncomputable def c8_3 : Code := cl c8_2
noncomputable def c8_4 : Code := cl c8_3
theorem w8_4 (s0 s1 s2 s3 s4 s5 s6 s7 s8 s9 s10 s11 s12 s13 s14 s15 s16 s17 s18 s19 s20 s21 s22 s23 : AV) (n : Nat) (h : Heap) (Q : Qt) : awp X n c8_4 Q ((s0 :: s1 :: s2 :: s3 :: s4 :: s5 :: s6 :: s7 :: s8 :: s9 :: s10 :: s11 :: s12 :: s13 :: s14 :: s15 :: s16 :: s17 :: s18 :: s19 :: s20 :: s21 :: s22 :: s23 :: []), h) = (a_mov s2 h (.c (fun t8 h1 => a_un .not t8 h1 (.c (fun t9 h2 => a_mov t9 h2 (.c (fun t10 h3 => a_on t10 true (fun k => a_mov s1 h3 k) h3 (.c (fun t11 h4 => a_on t10 true (fun k => a_bin .geq t11 (.v (.int .u64 4294967280)) h4 k) h4 (.c (fun t12 h5 => a_pick t10 t12 (.v (.bool false)) h5 (.c (fun t13 h6 => Q .normal ((s0 :: s1 :: s2 :: s3 :: s4 :: s5 :: s6 :: s7 :: t8 :: t9 :: t10 :: t11 :: t12 :: t13 :: s14 :: s15 :: s16 :: s17 :: s18 :: s19 :: s20 :: s21 :: s22 :: s23 :: []), h6)) ())) ())) ())) ())) ())) ())) := by rw [awp_eq]; kernel_rfl
noncomputable def c8_5 : Code := cr c8_3
noncomputable def c8_6 : Code := cl c8_5
noncomputable def c8_7 : Code := cl c8_6
theorem w8_7 (s0 s1 s2 s3 s4 s5 s6 s7 s8 s9 s10 s11 s12 s13 s14 s15 s16 s17 s18 s19 s20 s21 s22 s23 : AV) (n : Nat) (h : Heap) (Q : Qt) : awp X n c8_7 Q ((s0 :: s1 :: s2 :: s3 :: s4 :: s5 :: s6 :: s7 :: s8 :: s9 :: s10 :: s11 :: s12 :: s13 :: s14 :: s15 :: s16 :: s17 :: s18 :: s19 :: s20 :: s21 :: s22 :: s23 :: []), h) = (a_mov s0 h (.c (fun t14 h1 => a_mov t14 h1 (.c (fun t6 h2 => a_mov (.v (.int .i64 13)) h2 (.c (fun t7 h3 => Q .normal ((s0 :: s1 :: s2 :: s3 :: s4 :: s5 :: t6 :: t7 :: s8 :: s9 :: s10 :: s11 :: s12 :: s13 :: t14 :: s15 :: s16 :: s17 :: s18 :: s19 :: s20 :: s21 :: s22 :: s23 :: []), h3)) ())) ())) ())) := by rw [awp_eq]; kernel_rfl
noncomputable def c8_8 : Code := cr c8_6
theorem w8_8 (n : Nat) (Q : Qt) (st : St) : awp X n c8_8 Q st = Q .ret st := by rw [awp_eq]; kernel_rfl
theorem w8_6 (n : Nat) (Q : Qt) (st : St) : awp X n c8_6 Q st = awp X n c8_7 (thenQ (awp X n c8_8 Q) Q) st := by rw [awp_eq]; kernel_rfl
noncomputable def c8_9 : Code := cr c8_5
theorem w8_9 (n : Nat) (Q : Qt) (st : St) : awp X n c8_9 Q st = Q .normal st := by rw [awp_eq]; kernel_rfl
theorem w8_5 (s0 s1 s2 s3 s4 s5 s6 s7 s8 s9 s10 s11 s12 s13 s14 s15 s16 s17 s18 s19 s20 s21 s22 s23 : AV) (n : Nat) (h : Heap) (Q : Qt) : awp X n c8_5 Q ((s0 :: s1 :: s2 :: s3 :: s4 :: s5 :: s6 :: s7 :: s8 :: s9 :: s10 :: s11 :: s12 :: s13 :: s14 :: s15 :: s16 :: s17 :: s18 :: s19 :: s20 :: s21 :: s22 :: s23 :: []), h) = a_cond s13 (awp X n c8_6 Q ((s0 :: s1 :: s2 :: s3 :: s4 :: s5 :: s6 :: s7 :: s8 :: s9 :: s10 :: s11 :: s12 :: s13 :: s14 :: s15 :: s16 :: s17 :: s18 :: s19 :: s20 :: s21 :: s22 :: s23 :: []), h)) (awp X n c8_9 Q ((s0 :: s1 :: s2 :: s3 :: s4 :: s5 :: s6 :: s7 :: s8 :: s9 :: s10 :: s11 :: s12 :: s13 :: s14 :: s15 :: s16 :: s17 :: s18 :: s19 :: s20 :: s21 :: s22 :: s23 :: []), h)) := by rw [awp_eq]; kernel_rfl
theorem w8_3 (n : Nat) (Q : Qt) (st : St) : awp X n c8_3 Q st = awp X n c8_4 (thenQ (awp X n c8_5 Q) Q) st := by rw [awp_eq]; kernel_rfl
noncomputable def c8_10 : Code := cr c8_2
noncomputable def c8_11 : Code := cl c8_10
noncomputable def c8_12 : Code := cl c8_11
theorem w8_12 (s0 s1 s2 s3 s4 s5 s6 s7 s8 s9 s10 s11 s12 s13 s14 s15 s16 s17 s18 s19 s20 s21 s22 s23 : AV) (n : Nat) (h : Heap) (Q : Qt) : awp X n c8_12 Q ((s0 :: s1 :: s2 :: s3 :: s4 :: s5 :: s6 :: s7 :: s8 :: s9 :: s10 :: s11 :: s12 :: s13 :: s14 :: s15 :: s16 :: s17 :: s18 :: s19 :: s20 :: s21 :: s22 :: s23 :: []), h) = (a_mov s2 h (.c (fun t15 h1 => Q .normal ((s0 :: s1 :: s2 :: s3 :: s4 :: s5 :: s6 :: s7 :: s8 :: s9 :: s10 :: s11 :: s12 :: s13 :: s14 :: t15 :: s16 :: s17 :: s18 :: s19 :: s20 :: s21 :: s22 :: s23 :: []), h1)) ())) := by rw [awp_eq]; kernel_rfl
noncomputable def c8_13 : Code := cr c8_11
noncomputable def c8_14 : Code := cl c8_13
theorem w8_14 (s0 s1 s2 s3 s4 s5 s6 s7 s8 s9 s10 s11 s12 s13 s14 s15 s16 s17 s18 s19 s20 s21 s22 s23 : AV) (n : Nat) (h : Heap) (Q : Qt) : awp X n c8_14 Q ((s0 :: s1 :: s2 :: s3 :: s4 :: s5 :: s6 :: s7 :: s8 :: s9 :: s10 :: s11 :: s12 :: s13 :: s14 :: s15 :: s16 :: s17 :: s18 :: s19 :: s20 :: s21 :: s22 :: s23 :: []), h) = (a_mov s0 h (.c (fun t16 h1 => ACall X 10 [(.v (.bool false))] h1 (.c (fun t17 h2 => ACall X 25 [t16, (.v (.int .u64 4294967295)), t17] h2 (.c (fun t18 h3 => a_mov t18 h3 (.c (fun t0 h4 => Q .normal ((t0 :: s1 :: s2 :: s3 :: s4 :: s5 :: s6 :: s7 :: s8 :: s9 :: s10 :: s11 :: s12 :: s13 :: s14 :: s15 :: t16 :: t17 :: t18 :: s19 :: s20 :: s21 :: s22 :: s23 :: []), h4)) ())) ())) ())) ())) := by rw [awp_eq]; kernel_rfl
noncomputable def c8_15 : Code := cr c8_13
theorem w8_15 (n : Nat) (Q : Qt) (st : St) : awp X n c8_15 Q st = Q .normal st := by rw [awp_eq]; kernel_rfl
theorem w8_13 (s0 s1 s2 s3 s4 s5 s6 s7 s8 s9 s10 s11 s12 s13 s14 s15 s16 s17 s18 s19 s20 s21 s22 s23 : AV) (n : Nat) (h : Heap) (Q : Qt) : awp X n c8_13 Q ((s0 :: s1 :: s2 :: s3 :: s4 :: s5 :: s6 :: s7 :: s8 :: s9 :: s10 :: s11 :: s12 :: s13 :: s14 :: s15 :: s16 :: s17 :: s18 :: s19 :: s20 :: s21 :: s22 :: s23 :: []), h) = a_cond s15 (awp X n c8_14 Q ((s0 :: s1 :: s2 :: s3 :: s4 :: s5 :: s6 :: s7 :: s8 :: s9 :: s10 :: s11 :: s12 :: s13 :: s14 :: s15 :: s16 :: s17 :: s18 :: s19 :: s20 :: s21 :: s22 :: s23 :: []), h)) (awp X n c8_15 Q ((s0 :: s1 :: s2 :: s3 :: s4 :: s5 :: s6 :: s7 :: s8 :: s9 :: s10 :: s11 :: s12 :: s13 :: s14 :: s15 :: s16 :: s17 :: s18 :: s19 :: s20 :: s21 :: s22 :: s23 :: []), h)) := by rw [awp_eq]; kernel_rfl
theorem w8_11 (n : Nat) (Q : Qt) (st : St) : awp X n c8_11 Q st = awp X n c8_12 (thenQ (awp X n c8_13 Q) Q) st := by rw [awp_eq]; kernel_rfl
noncomputable def c8_16 : Code := cr c8_10
noncomputable def c8_17 : Code := cl c8_16
theorem w8_17 (s0 s1 s2 s3 s4 s5 s6 s7 s8 s9 s10 s11 s12 s13 s14 s15 s16 s17 s18 s19 s20 s21 s22 s23 : AV) (n : Nat) (h : Heap) (Q : Qt) : awp X n c8_17 Q ((s0 :: s1 :: s2 :: s3 :: s4 :: s5 :: s6 :: s7 :: s8 :: s9 :: s10 :: s11 :: s12 :: s13 :: s14 :: s15 :: s16 :: s17 :: s18 :: s19 :: s20 :: s21 :: s22 :: s23 :: []), h) = (a_mov s0 h (.c (fun t19 h1 => a_mov s1 h1 (.c (fun t20 h2 => a_mov s2 h2 (.c (fun t21 h3 => ACall X 10 [t21] h3 (.c (fun t22 h4 => ACall X 25 [t19, t20, t22] h4 (.c (fun t23 h5 => a_mov t23 h5 (.c (fun t6 h6 => a_mov (.v (.int .i64 0)) h6 (.c (fun t7 h7 => Q .normal ((s0 :: s1 :: s2 :: s3 :: s4 :: s5 :: t6 :: t7 :: s8 :: s9 :: s10 :: s11 :: s12 :: s13 :: s14 :: s15 :: s16 :: s17 :: s18 :: t19 :: t20 :: t21 :: t22 :: t23 :: []), h7)) ())) ())) ())) ())) ())) ())) ())) := by rw [awp_eq]; kernel_rfl
noncomputable def c8_18 : Code := cr c8_16
theorem w8_18 (n : Nat) (Q : Qt) (st : St) : awp X n c8_18 Q st = Q .ret st := by rw [awp_eq]; kernel_rfl
theorem w8_16 (n : Nat) (Q : Qt) (st : St) : awp X n c8_16 Q st = awp X n c8_17 (thenQ (awp X n c8_18 Q) Q) st := by rw [awp_eq]; kernel_rfl
theorem w8_10 (n : Nat) (Q : Qt) (st : St) : awp X n c8_10 Q st = awp X n c8_11 (thenQ (awp X n c8_16 Q) Q) st := by rw [awp_eq]; kernel_rfl
theorem w8_2 (n : Nat) (Q : Qt) (st : St) : awp X n c8_2 Q st = awp X n c8_3 (thenQ (awp X n c8_10 Q) Q) st := by rw [awp_eq]; kernel_rfl
theorem w8_0 (n : Nat) (Q : Qt) (st : St) : awp X n c8_0 Q st = awp X n c8_1 (thenQ (awp X n c8_2 Q) Q) st := by rw [awp_eq]; kernel_rfl
theorem q8_ret (s0 s1 s2 s3 s4 s5 s6 s7 s8 s9 s10 s11 s12 s13 s14 s15 s16 s17 s18 s19 s20 s21 s22 s23 : AV) (h : Heap) (K : Kt) : retQ X Tryd.f8 K .ret ((s0 :: s1 :: s2 :: s3 :: s4 :: s5 :: s6 :: s7 :: s8 :: s9 :: s10 :: s11 :: s12 :: s13 :: s14 :: s15 :: s16 :: s17 :: s18 :: s19 :: s20 :: s21 :: s22 :: s23 :: []), h) = (K.K (.t [s6, s7]) h) := by kernel_rfl
theorem q8_normal (s0 s1 s2 s3 s4 s5 s6 s7 s8 s9 s10 s11 s12 s13 s14 s15 s16 s17 s18 s19 s20 s21 s22 s23 : AV) (h : Heap) (K : Kt) : retQ X Tryd.f8 K .normal ((s0 :: s1 :: s2 :: s3 :: s4 :: s5 :: s6 :: s7 :: s8 :: s9 :: s10 :: s11 :: s12 :: s13 :: s14 :: s15 :: s16 :: s17 :: s18 :: s19 :: s20 :: s21 :: s22 :: s23 :: []), h) = (K.K (.t [s6, s7]) h) := by kernel_rfl
theorem i8 (a0 a1 a2 : AV) (h : Heap) (K : Kt) (H : awp X h.length c8_0 (retQ X Tryd.f8 K) ((a0 :: a1 :: a2 :: .bad :: .bad :: .bad :: .bad :: .bad :: .bad :: .bad :: .bad :: .bad :: .bad :: .bad :: .bad :: .bad :: .bad :: .bad :: .bad :: .bad :: .bad :: .bad :: .bad :: .bad :: []), h)) : ACall X 8 [a0, a1, a2] h K := acall_intro (fn := Tryd.f8) (by kernel_rfl) (by kernel_rfl) (by kernel_rfl) H
/-! function 9: sindri/sindriref05.Put -/
noncomputable def c9_0 : Code := bodyOf Tryd.f9
noncomputable def c9_1 : Code := cl c9_0
theorem w9_1 (s0 s1 s2 s3 s4 s5 s6 s7 s8 s9 s10 s11 s12 s13 s14 : AV) (n : Nat) (h : Heap) (Q : Qt) : awp X n c9_1 Q ((s0 :: s1 :: s2 :: s3 :: s4 :: s5 :: s6 :: s7 :: s8 :: s9 :: s10 :: s11 :: s12 :: s13 :: s14 :: []), h) = (a_mov (.v (.slice none 0 0)) h (.c (fun t4 h1 => a_mov (.v (.int .i64 0)) h1 (.c (fun t5 h2 => Q .normal ((s0 :: s1 :: s2 :: s3 :: t4 :: t5 :: s6 :: s7 :: s8 :: s9 :: s10 :: s11 :: s12 :: s13 :: s14 :: []), h2)) ())) ())) := by rw [awp_eq]; kernel_rfl
noncomputable def c9_2 : Code := cr c9_0
noncomputable def c9_3 : Code := cl c9_2
noncomputable def c9_4 : Code := cl c9_3
theorem w9_4 (s0 s1 s2 s3 s4 s5 s6 s7 s8 s9 s10 s11 s12 s13 s14 : AV) (n : Nat) (h : Heap) (Q : Qt) : awp X n c9_4 Q ((s0 :: s1 :: s2 :: s3 :: s4 :: s5 :: s6 :: s7 :: s8 :: s9 :: s10 :: s11 :: s12 :: s13 :: s14 :: []), h) = (a_mov s1 h (.c (fun t6 h1 => Q .normal ((s0 :: s1 :: s2 :: s3 :: s4 :: s5 :: t6 :: s7 :: s8 :: s9 :: s10 :: s11 :: s12 :: s13 :: s14 :: []), h1)) ())) := by rw [awp_eq]; kernel_rfl
noncomputable def c9_5 : Code := cr c9_3
noncomputable def c9_6 : Code := cl c9_5
noncomputable def c9_7 : Code := cl c9_6
theorem w9_7 (s0 s1 s2 s3 s4 s5 s6 s7 s8 s9 s10 s11 s12 s13 s14 : AV) (n : Nat) (h : Heap) (Q : Qt) : awp X n c9_7 Q ((s0 :: s1 :: s2 :: s3 :: s4 :: s5 :: s6 :: s7 :: s8 :: s9 :: s10 :: s11 :: s12 :: s13 :: s14 :: []), h) = (ACall X 26 [(.v (.int .u64 4294967295)), (.v (.int .i64 4))] h (.c (fun t7 h1 => a_mov s0 h1 (.c (fun t8 h2 => ACall X 26 [t8, (.v (.int .i64 8))] h2 (.c (fun t9 h3 => a_app 1 1 t7 t9 h3 (.c (fun t10 h4 => a_mov t10 h4 (.c (fun t4 h5 => a_mov (.v (.int .i64 0)) h5 (.c (fun t5 h6 => Q .normal ((s0 :: s1 :: s2 :: s3 :: t4 :: t5 :: s6 :: t7 :: t8 :: t9 :: t10 :: s11 :: s12 :: s13 :: s14 :: []), h6)) ())) ())) ())) ())) ())) ())) := by rw [awp_eq]; kernel_rfl
noncomputable def c9_8 : Code := cr c9_6
theorem w9_8 (n : Nat) (Q : Qt) (st : St) : awp X n c9_8 Q st = Q .ret st := by rw [awp_eq]; kernel_rfl
theorem w9_6 (n : Nat) (Q : Qt) (st : St) : awp X n c9_6 Q st = awp X n c9_7 (thenQ (awp X n c9_8 Q) Q) st := by rw [awp_eq]; kernel_rfl
noncomputable def c9_9 : Code := cr c9_5
theorem w9_9 (n : Nat) (Q : Qt) (st : St) : awp X n c9_9 Q st = Q .normal st := by rw [awp_eq]; kernel_rfl
theorem w9_5 (s0 s1 s2 s3 s4 s5 s6 s7 s8 s9 s10 s11 s12 s13 s14 : AV) (n : Nat) (h : Heap) (Q : Qt) : awp X n c9_5 Q ((s0 :: s1 :: s2 :: s3 :: s4 :: s5 :: s6 :: s7 :: s8 :: s9 :: s10 :: s11 :: s12 :: s13 :: s14 :: []), h) = a_cond s6 (awp X n c9_6 Q ((s0 :: s1 :: s2 :: s3 :: s4 :: s5 :: s6 :: s7 :: s8 :: s9 :: s10 :: s11 :: s12 :: s13 :: s14 :: []), h)) (awp X n c9_9 Q ((s0 :: s1 :: s2 :: s3 :: s4 :: s5 :: s6 :: s7 :: s8 :: s9 :: s10 :: s11 :: s12 :: s13 :: s14 :: []), h)) := by rw [awp_eq]; kernel_rfl
theorem w9_3 (n : Nat) (Q : Qt) (st : St) : awp X n c9_3 Q st = awp X n c9_4 (thenQ (awp X n c9_5 Q) Q) st := by rw [awp_eq]; kernel_rfl
noncomputable def c9_10 : Code := cr c9_2
noncomputable def c9_11 : Code := cl c9_10
noncomputable def c9_12 : Code := cl c9_11
theorem w9_12 (s0 s1 s2 s3 s4 s5 s6 s7 s8 s9 s10 s11 s12 s13 s14 : AV) (n : Nat) (h : Heap) (Q : Qt) : awp X n c9_12 Q ((s0 :: s1 :: s2 :: s3 :: s4 :: s5 :: s6 :: s7 :: s8 :: s9 :: s10 :: s11 :: s12 :: s13 :: s14 :: []), h) = (a_mov s0 h (.c (fun t11 h1 => a_bin .geq t11 (.v (.int .u64 4294967280)) h1 (.c (fun t12 h2 => Q .normal ((s0 :: s1 :: s2 :: s3 :: s4 :: s5 :: s6 :: s7 :: s8 :: s9 :: s10 :: t11 :: t12 :: s13 :: s14 :: []), h2)) ())) ())) := by rw [awp_eq]; kernel_rfl
noncomputable def c9_13 : Code := cr c9_11
noncomputable def c9_14 : Code := cl c9_13
noncomputable def c9_15 : Code := cl c9_14
theorem w9_15 (s0 s1 s2 s3 s4 s5 s6 s7 s8 s9 s10 s11 s12 s13 s14 : AV) (n : Nat) (h : Heap) (Q : Qt) : awp X n c9_15 Q ((s0 :: s1 :: s2 :: s3 :: s4 :: s5 :: s6 :: s7 :: s8 :: s9 :: s10 :: s11 :: s12 :: s13 :: s14 :: []), h) = (a_mov (.v (.slice none 0 0)) h (.c (fun t4 h1 => a_mov (.v (.int .i64 13)) h1 (.c (fun t5 h2 => Q .normal ((s0 :: s1 :: s2 :: s3 :: t4 :: t5 :: s6 :: s7 :: s8 :: s9 :: s10 :: s11 :: s12 :: s13 :: s14 :: []), h2)) ())) ())) := by rw [awp_eq]; kernel_rfl
noncomputable def c9_16 : Code := cr c9_14
theorem w9_16 (n : Nat) (Q : Qt) (st : St) : awp X n c9_16 Q st = Q .ret st := by rw [awp_eq]; kernel_rfl
theorem w9_14 (n : Nat) (Q : Qt) (st : St) : awp X n c9_14 Q st = awp X n c9_15 (thenQ (awp X n c9_16 Q) Q) st := by rw [awp_eq]; kernel_rfl
noncomputable def c9_17 : Code := cr c9_13
theorem w9_17 (n : Nat) (Q : Qt) (st : St) : awp X n c9_17 Q st = Q .normal st := by rw [awp_eq]; kernel_rfl
theorem w9_13 (s0 s1 s2 s3 s4 s5 s6 s7 s8 s9 s10 s11 s12 s13 s14 : AV) (n : Nat) (h : Heap) (Q : Qt) : awp X n c9_13 Q ((s0 :: s1 :: s2 :: s3 :: s4 :: s5 :: s6 :: s7 :: s8 :: s9 :: s10 :: s11 :: s12 :: s13 :: s14 :: []), h) = a_cond s12 (awp X n c9_14 Q ((s0 :: s1 :: s2 :: s3 :: s4 :: s5 :: s6 :: s7 :: s8 :: s9 :: s10 :: s11 :: s12 :: s13 :: s14 :: []), h)) (awp X n c9_17 Q ((s0 :: s1 :: s2 :: s3 :: s4 :: s5 :: s6 :: s7 :: s8 :: s9 :: s10 :: s11 :: s12 :: s13 :: s14 :: []), h)) := by rw [awp_eq]; kernel_rfl
theorem w9_11 (n : Nat) (Q : Qt) (st : St) : awp X n c9_11 Q st = awp X n c9_12 (thenQ (awp X n c9_13 Q) Q) st := by rw [awp_eq]; kernel_rfl
noncomputable def c9_18 : Code := cr c9_10
noncomputable def c9_19 : Code := cl c9_18
theorem w9_19 (s0 s1 s2 s3 s4 s5 s6 s7 s8 s9 s10 s11 s12 s13 s14 : AV) (n : Nat) (h : Heap) (Q : Qt) : awp X n c9_19 Q ((s0 :: s1 :: s2 :: s3 :: s4 :: s5 :: s6 :: s7 :: s8 :: s9 :: s10 :: s11 :: s12 :: s13 :: s14 :: []), h) = (a_mov s0 h (.c (fun t13 h1 => ACall X 26 [t13, (.v (.int .i64 4))] h1 (.c (fun t14 h2 => a_mov t14 h2 (.c (fun t4 h3 => a_mov (.v (.int .i64 0)) h3 (.c (fun t5 h4 => Q .normal ((s0 :: s1 :: s2 :: s3 :: t4 :: t5 :: s6 :: s7 :: s8 :: s9 :: s10 :: s11 :: s12 :: t13 :: t14 :: []), h4)) ())) ())) ())) ())) := by rw [awp_eq]; kernel_rfl
noncomputable def c9_20 : Code := cr c9_18
theorem w9_20 (n : Nat) (Q : Qt) (st : St) : awp X n c9_20 Q st = Q .ret st := by rw [awp_eq]; kernel_rfl
theorem w9_18 (n : Nat) (Q : Qt) (st : St) : awp X n c9_18 Q st = awp X n c9_19 (thenQ (awp X n c9_20 Q) Q) st := by rw [awp_eq]; kernel_rfl
theorem w9_10 (n : Nat) (Q : Qt) (st : St) : awp X n c9_10 Q st = awp X n c9_11 (thenQ (awp X n c9_18 Q) Q) st := by rw [awp_eq]; kernel_rfl
theorem w9_2 (n : Nat) (Q : Qt) (st : St) : awp X n c9_2 Q st = awp X n c9_3 (thenQ (awp X n c9_10 Q) Q) st := by rw [awp_eq]; kernel_rfl
theorem w9_0 (n : Nat) (Q : Qt) (st : St) : awp X n c9_0 Q st = awp X n c9_1 (thenQ (awp X n c9_2 Q) Q) st := by rw [awp_eq]; kernel_rfl
theorem q9_ret (s0 s1 s2 s3 s4 s5 s6 s7 s8 s9 s10 s11 s12 s13 s14 : AV) (h : Heap) (K : Kt) : retQ X Tryd.f9 K .ret ((s0 :: s1 :: s2 :: s3 :: s4 :: s5 :: s6 :: s7 :: s8 :: s9 :: s10 :: s11 :: s12 :: s13 :: s14 :: []), h) = (K.K (.t [s4, s5]) h) := by kernel_rfl
theorem q9_normal (s0 s1 s2 s3 s4 s5 s6 s7 s8 s9 s10 s11 s12 s13 s14 : AV) (h : Heap) (K : Kt) : retQ X Tryd.f9 K .normal ((s0 :: s1 :: s2 :: s3 :: s4 :: s5 :: s6 :: s7 :: s8 :: s9 :: s10 :: s11 :: s12 :: s13 :: s14 :: []), h) = (K.K (.t [s4, s5]) h) := by kernel_rfl
theorem i9 (a0 a1 : AV) (h : Heap) (K : Kt) (H : awp X h.length c9_0 (retQ X Tryd.f9 K) ((a0 :: a1 :: .bad :: .bad :: .bad :: .bad :: .bad :: .bad :: .bad :: .bad :: .bad :: .bad :: .bad :: .bad :: .bad :: []), h)) : ACall X 9 [a0, a1] h K := acall_intro (fn := Tryd.f9) (by kernel_rfl) (by kernel_rfl) (by kernel_rfl) H
/-! function 10: sindri/length.Off -/
noncomputable def c10_0 : Code := bodyOf Tryd.f10
noncomputable def c10_1 : Code := cl c10_0
theorem w10_1 (s0 s1 s2 s3 s4 s5 s6 s7 : AV) (n : Nat) (h : Heap) (Q : Qt) : awp X n c10_1 Q ((s0 :: s1 :: s2 :: s3 :: s4 :: s5 :: s6 :: s7 :: []), h) = (a_mov (.v (.int .i64 0)) h (.c (fun t2 h1 => Q .normal ((s0 :: s1 :: t2 :: s3 :: s4 :: s5 :: s6 :: s7 :: []), h1)) ())) := by rw [awp_eq]; kernel_rfl
noncomputable def c10_2 : Code := cr c10_0
noncomputable def c10_3 : Code := cl c10_2
noncomputable def c10_4 : Code := cl c10_3
theorem w10_4 (s0 s1 s2 s3 s4 s5 s6 s7 : AV) (n : Nat) (h : Heap) (Q : Qt) : awp X n c10_4 Q ((s0 :: s1 :: s2 :: s3 :: s4 :: s5 :: s6 :: s7 :: []), h) = (a_mov s0 h (.c (fun t3 h1 => Q .normal ((s0 :: s1 :: s2 :: t3 :: s4 :: s5 :: s6 :: s7 :: []), h1)) ())) := by rw [awp_eq]; kernel_rfl
noncomputable def c10_5 : Code := cr c10_3
noncomputable def c10_6 : Code := cl c10_5
noncomputable def c10_7 : Code := cl c10_6
theorem w10_7 (s0 s1 s2 s3 s4 s5 s6 s7 : AV) (n : Nat) (h : Heap) (Q : Qt) : awp X n c10_7 Q ((s0 :: s1 :: s2 :: s3 :: s4 :: s5 :: s6 :: s7 :: []), h) = (a_iarr 2 1 (.q [.v (.int .i64 4), .v (.int .i64 8)] 0) (.v (.int .i64 1)) h (.c (fun t4 h1 => a_load 1 false t4 h1 (.c (fun t5 h2 => a_mov t5 h2 (.c (fun t2 h3 => Q .normal ((s0 :: s1 :: t2 :: s3 :: t4 :: t5 :: s6 :: s7 :: []), h3)) ())) ())) ())) := by rw [awp_eq]; kernel_rfl
noncomputable def c10_8 : Code := cr c10_6
theorem w10_8 (n : Nat) (Q : Qt) (st : St) : awp X n c10_8 Q st = Q .ret st := by rw [awp_eq]; kernel_rfl
theorem w10_6 (n : Nat) (Q : Qt) (st : St) : awp X n c10_6 Q st = awp X n c10_7 (thenQ (awp X n c10_8 Q) Q) st := by rw [awp_eq]; kernel_rfl
noncomputable def c10_9 : Code := cr c10_5
theorem w10_9 (n : Nat) (Q : Qt) (st : St) : awp X n c10_9 Q st = Q .normal st := by rw [awp_eq]; kernel_rfl
theorem w10_5 (s0 s1 s2 s3 s4 s5 s6 s7 : AV) (n : Nat) (h : Heap) (Q : Qt) : awp X n c10_5 Q ((s0 :: s1 :: s2 :: s3 :: s4 :: s5 :: s6 :: s7 :: []), h) = a_cond s3 (awp X n c10_6 Q ((s0 :: s1 :: s2 :: s3 :: s4 :: s5 :: s6 :: s7 :: []), h)) (awp X n c10_9 Q ((s0 :: s1 :: s2 :: s3 :: s4 :: s5 :: s6 :: s7 :: []), h)) := by rw [awp_eq]; kernel_rfl
theorem w10_3 (n : Nat) (Q : Qt) (st : St) : awp X n c10_3 Q st = awp X n c10_4 (thenQ (awp X n c10_5 Q) Q) st := by rw [awp_eq]; kernel_rfl
noncomputable def c10_10 : Code := cr c10_2
noncomputable def c10_11 : Code := cl c10_10
theorem w10_11 (s0 s1 s2 s3 s4 s5 s6 s7 : AV) (n : Nat) (h : Heap) (Q : Qt) : awp X n c10_11 Q ((s0 :: s1 :: s2 :: s3 :: s4 :: s5 :: s6 :: s7 :: []), h) = (a_iarr 2 1 (.q [.v (.int .i64 4), .v (.int .i64 8)] 0) (.v (.int .i64 0)) h (.c (fun t6 h1 => a_load 1 false t6 h1 (.c (fun t7 h2 => a_mov t7 h2 (.c (fun t2 h3 => Q .normal ((s0 :: s1 :: t2 :: s3 :: s4 :: s5 :: t6 :: t7 :: []), h3)) ())) ())) ())) := by rw [awp_eq]; kernel_rfl
noncomputable def c10_12 : Code := cr c10_10
theorem w10_12 (n : Nat) (Q : Qt) (st : St) : awp X n c10_12 Q st = Q .ret st := by rw [awp_eq]; kernel_rfl
theorem w10_10 (n : Nat) (Q : Qt) (st : St) : awp X n c10_10 Q st = awp X n c10_11 (thenQ (awp X n c10_12 Q) Q) st := by rw [awp_eq]; kernel_rfl
theorem w10_2 (n : Nat) (Q : Qt) (st : St) : awp X n c10_2 Q st = awp X n c10_3 (thenQ (awp X n c10_10 Q) Q) st := by rw [awp_eq]; kernel_rfl
theorem w10_0 (n : Nat) (Q : Qt) (st : St) : awp X n c10_0 Q st = awp X n c10_1 (thenQ (awp X n c10_2 Q) Q) st := by rw [awp_eq]; kernel_rfl
theorem q10_ret (s0 s1 s2 s3 s4 s5 s6 s7 : AV) (h : Heap) (K : Kt) : retQ X Tryd.f10 K .ret ((s0 :: s1 :: s2 :: s3 :: s4 :: s5 :: s6 :: s7 :: []), h) = (K.K s2 h) := by kernel_rfl
theorem q10_normal (s0 s1 s2 s3 s4 s5 s6 s7 : AV) (h : Heap) (K : Kt) : retQ X Tryd.f10 K .normal ((s0 :: s1 :: s2 :: s3 :: s4 :: s5 :: s6 :: s7 :: []), h) = (K.K s2 h) := by kernel_rfl
theorem i10 (a0 : AV) (h : Heap) (K : Kt) (H : awp X h.length c10_0 (retQ X Tryd.f10 K) ((a0 :: .bad :: .bad :: .bad :: .bad :: .bad :: .bad :: .bad :: []), h)) : ACall X 10 [a0] h K := acall_intro (fn := Tryd.f10) (by kernel_rfl) (by kernel_rfl) (by kernel_rfl) H
/-! function 11: sindri/sindriref05.Off -/
noncomputable def c11_0 : Code := bodyOf Tryd.f11
noncomputable def c11_1 : Code := cl c11_0
theorem w11_1 (s0 s1 s2 s3 : AV) (n : Nat) (h : Heap) (Q : Qt) : awp X n c11_1 Q ((s0 :: s1 :: s2 :: s3 :: []), h) = (a_mov (.v (.int .i64 0)) h (.c (fun t2 h1 => Q .normal ((s0 :: s1 :: t2 :: s3 :: []), h1)) ())) := by rw [awp_eq]; kernel_rfl
noncomputable def c11_2 : Code := cr c11_0
noncomputable def c11_3 : Code := cl c11_2
noncomputable def c11_4 : Code := cl c11_3
theorem w11_4 (s0 s1 s2 s3 : AV) (n : Nat) (h : Heap) (Q : Qt) : awp X n c11_4 Q ((s0 :: s1 :: s2 :: s3 :: []), h) = (a_mov s0 h (.c (fun t3 h1 => Q .normal ((s0 :: s1 :: s2 :: t3 :: []), h1)) ())) := by rw [awp_eq]; kernel_rfl
noncomputable def c11_5 : Code := cr c11_3
noncomputable def c11_6 : Code := cl c11_5
noncomputable def c11_7 : Code := cl c11_6
theorem w11_7 (s0 s1 s2 s3 : AV) (n : Nat) (h : Heap) (Q : Qt) : awp X n c11_7 Q ((s0 :: s1 :: s2 :: s3 :: []), h) = (a_mov (.v (.int .i64 8)) h (.c (fun t2 h1 => Q .normal ((s0 :: s1 :: t2 :: s3 :: []), h1)) ())) := by rw [awp_eq]; kernel_rfl
noncomputable def c11_8 : Code := cr c11_6
theorem w11_8 (n : Nat) (Q : Qt) (st : St) : awp X n c11_8 Q st = Q .ret st := by rw [awp_eq]; kernel_rfl
theorem w11_6 (n : Nat) (Q : Qt) (st : St) : awp X n c11_6 Q st = awp X n c11_7 (thenQ (awp X n c11_8 Q) Q) st := by rw [awp_eq]; kernel_rfl
noncomputable def c11_9 : Code := cr c11_5
theorem w11_9 (n : Nat) (Q : Qt) (st : St) : awp X n c11_9 Q st = Q .normal st := by rw [awp_eq]; kernel_rfl
theorem w11_5 (s0 s1 s2 s3 : AV) (n : Nat) (h : Heap) (Q : Qt) : awp X n c11_5 Q ((s0 :: s1 :: s2 :: s3 :: []), h) = a_cond s3 (awp X n c11_6 Q ((s0 :: s1 :: s2 :: s3 :: []), h)) (awp X n c11_9 Q ((s0 :: s1 :: s2 :: s3 :: []), h)) := by rw [awp_eq]; kernel_rfl
theorem w11_3 (n : Nat) (Q : Qt) (st : St) : awp X n c11_3 Q st = awp X n c11_4 (thenQ (awp X n c11_5 Q) Q) st := by rw [awp_eq]; kernel_rfl
noncomputable def c11_10 : Code := cr c11_2
noncomputable def c11_11 : Code := cl c11_10
theorem w11_11 (s0 s1 s2 s3 : AV) (n : Nat) (h : Heap) (Q : Qt) : awp X n c11_11 Q ((s0 :: s1 :: s2 :: s3 :: []), h) = (a_mov (.v (.int .i64 4)) h (.c (fun t2 h1 => Q .normal ((s0 :: s1 :: t2 :: s3 :: []), h1)) ())) := by rw [awp_eq]; kernel_rfl
noncomputable def c11_12 : Code := cr c11_10
theorem w11_12 (n : Nat) (Q : Qt) (st : St) : awp X n c11_12 Q st = Q .ret st := by rw [awp_eq]; kernel_rfl
theorem w11_10 (n : Nat) (Q : Qt) (st : St) : awp X n c11_10 Q st = awp X n c11_11 (thenQ (awp X n c11_12 Q) Q) st := by rw [awp_eq]; kernel_rfl
theorem w11_2 (n : Nat) (Q : Qt) (st : St) : awp X n c11_2 Q st = awp X n c11_3 (thenQ (awp X n c11_10 Q) Q) st := by rw [awp_eq]; kernel_rfl
theorem w11_0 (n : Nat) (Q : Qt) (st : St) : awp X n c11_0 Q st = awp X n c11_1 (thenQ (awp X n c11_2 Q) Q) st := by rw [awp_eq]; kernel_rfl
theorem q11_ret (s0 s1 s2 s3 : AV) (h : Heap) (K : Kt) : retQ X Tryd.f11 K .ret ((s0 :: s1 :: s2 :: s3 :: []), h) = (K.K s2 h) := by kernel_rfl
theorem q11_normal (s0 s1 s2 s3 : AV) (h : Heap) (K : Kt) : retQ X Tryd.f11 K .normal ((s0 :: s1 :: s2 :: s3 :: []), h) = (K.K s2 h) := by kernel_rfl
theorem i11 (a0 : AV) (h : Heap) (K : Kt) (H : awp X h.length c11_0 (retQ X Tryd.f11 K) ((a0 :: .bad :: .bad :: .bad :: []), h)) : ACall X 11 [a0] h K := acall_intro (fn := Tryd.f11) (by kernel_rfl) (by kernel_rfl) (by kernel_rfl) H
/-! function 12: sindri/length.Wrap -/
noncomputable def c12_0 : Code := bodyOf Tryd.f12
noncomputable def c12_1 : Code := cl c12_0
theorem w12_1 (s0 s1 s2 s3 s4 s5 s6 s7 s8 s9 s10 s11 s12 s13 s14 s15 s16 s17 s18 s19 s20 s21 s22 s23 s24 : AV) (n : Nat) (h : Heap) (Q : Qt) : awp X n c12_1 Q ((s0 :: s1 :: s2 :: s3 :: s4 :: s5 :: s6 :: s7 :: s8 :: s9 :: s10 :: s11 :: s12 :: s13 :: s14 :: s15 :: s16 :: s17 :: s18 :: s19 :: s20 :: s21 :: s22 :: s23 :: s24 :: []), h) = (a_mov (.v (.slice none 0 0)) h (.c (fun t6 h1 => a_mov (.v (.int .i64 0)) h1 (.c (fun t7 h2 => Q .normal ((s0 :: s1 :: s2 :: s3 :: s4 :: s5 :: t6 :: t7 :: s8 :: s9 :: s10 :: s11 :: s12 :: s13 :: s14 :: s15 :: s16 :: s17 :: s18 :: s19 :: s20 :: s21 :: s22 :: s23 :: s24 :: []), h2)) ())) ())) := by rw [awp_eq]; kernel_rfl
noncomputable def c12_2 : Code := cr c12_0
noncomputable def c12_3 : Code := cl c12_2
theorem w12_3 (s0 s1 s2 s3 s4 s5 s6 s7 s8 s9 s10 s11 s12 s13 s14 s15 s16 s17 s18 s19 s20 s21 s22 s23 s24 : AV) (n : Nat) (h : Heap) (Q : Qt) : awp X n c12_3 Q ((s0 :: s1 :: s2 :: s3 :: s4 :: s5 :: s6 :: s7 :: s8 :: s9 :: s10 :: s11 :: s12 :: s13 :: s14 :: s15 :: s16 :: s17 :: s18 :: s19 :: s20 :: s21 :: s22 :: s23 :: s24 :: []), h) = (a_mov s0 h (.c (fun t10 h1 => a_mov s2 h1 (.c (fun t11 h2 => a_len t11 h2 (.c (fun t12 h3 => a_cint .u64 t12 h3 (.c (fun t13 h4 => a_mov s1 h4 (.c (fun t14 h5 => ACall X 8 [t10, t13, t14] h5 (.c (fun t15 h6 => a_mov t15 h6 (.c (fun t9 h7 => a_ext 0 t9 h7 (.c (fun t16 h8 => a_ext 1 t9 h8 (.c (fun t17 h9 => a_mov t16 h9 (.c (fun t0 h10 => a_mov t17 h10 (.c (fun t8 h11 => Q .normal ((t0 :: s1 :: s2 :: s3 :: s4 :: s5 :: s6 :: s7 :: t8 :: t9 :: t10 :: t11 :: t12 :: t13 :: t14 :: t15 :: t16 :: t17 :: s18 :: s19 :: s20 :: s21 :: s22 :: s23 :: s24 :: []), h11)) ())) ())) ())) ())) ())) ())) ())) ())) ())) ())) ())) := by rw [awp_eq]; kernel_rfl
noncomputable def c12_4 : Code := cr c12_2
noncomputable def c12_5 : Code := cl c12_4
noncomputable def c12_6 : Code := cl c12_5
theorem w12_6 (s0 s1 s2 s3 s4 s5 s6 s7 s8 s9 s10 s11 s12 s13 s14 s15 s16 s17 s18 s19 s20 s21 s22 s23 s24 : AV) (n : Nat) (h : Heap) (Q : Qt) : awp X n c12_6 Q ((s0 :: s1 :: s2 :: s3 :: s4 :: s5 :: s6 :: s7 :: s8 :: s9 :: s10 :: s11 :: s12 :: s13 :: s14 :: s15 :: s16 :: s17 :: s18 :: s19 :: s20 :: s21 :: s22 :: s23 :: s24 :: []), h) = (a_mov s8 h (.c (fun t18 h1 => a_bin .neq t18 (.v (.int .i64 0)) h1 (.c (fun t19 h2 => Q .normal ((s0 :: s1 :: s2 :: s3 :: s4 :: s5 :: s6 :: s7 :: s8 :: s9 :: s10 :: s11 :: s12 :: s13 :: s14 :: s15 :: s16 :: s17 :: t18 :: t19 :: s20 :: s21 :: s22 :: s23 :: s24 :: []), h2)) ())) ())) := by rw [awp_eq]; kernel_rfl
noncomputable def c12_7 : Code := cr c12_5
noncomputable def c12_8 : Code := cl c12_7
noncomputable def c12_9 : Code := cl c12_8
theorem w12_9 (s0 s1 s2 s3 s4 s5 s6 s7 s8 s9 s10 s11 s12 s13 s14 s15 s16 s17 s18 s19 s20 s21 s22 s23 s24 : AV) (n : Nat) (h : Heap) (Q : Qt) : awp X n c12_9 Q ((s0 :: s1 :: s2 :: s3 :: s4 :: s5 :: s6 :: s7 :: s8 :: s9 :: s10 :: s11 :: s12 :: s13 :: s14 :: s15 :: s16 :: s17 :: s18 :: s19 :: s20 :: s21 :: s22 :: s23 :: s24 :: []), h) = (a_mov s0 h (.c (fun t20 h1 => a_mov s8 h1 (.c (fun t21 h2 => a_mov t20 h2 (.c (fun t6 h3 => a_mov t21 h3 (.c (fun t7 h4 => Q .normal ((s0 :: s1 :: s2 :: s3 :: s4 :: s5 :: t6 :: t7 :: s8 :: s9 :: s10 :: s11 :: s12 :: s13 :: s14 :: s15 :: s16 :: s17 :: s18 :: s19 :: t20 :: t21 :: s22 :: s23 :: s24 :: []), h4)) ())) ())) ())) ())) := by rw [awp_eq]; kernel_rfl
noncomputable def c12_10 : Code := cr c12_8
theorem w12_10 (n : Nat) (Q : Qt) (st : St) : awp X n c12_10 Q st = Q .ret st := by rw [awp_eq]; kernel_rfl
theorem w12_8 (n : Nat) (Q : Qt) (st : St) : awp X n c12_8 Q st = awp X n c12_9 (thenQ (awp X n c12_10 Q) Q) st := by rw [awp_eq]; kernel_rfl
noncomputable def c12_11 : Code := cr c12_7
theorem w12_11 (n : Nat) (Q : Qt) (st : St) : awp X n c12_11 Q st = Q .normal st := by rw [awp_eq]; kernel_rfl
theorem w12_7 (s0 s1 s2 s3 s4 s5 s6 s7 s8 s9 s10 s11 s12 s13 s14 s15 s16 s17 s18 s19 s20 s21 s22 s23 s24 : AV) (n : Nat) (h : Heap) (Q : Qt) : awp X n c12_7 Q ((s0 :: s1 :: s2 :: s3 :: s4 :: s5 :: s6 :: s7 :: s8 :: s9 :: s10 :: s11 :: s12 :: s13 :: s14 :: s15 :: s16 :: s17 :: s18 :: s19 :: s20 :: s21 :: s22 :: s23 :: s24 :: []), h) = a_cond s19 (awp X n c12_8 Q ((s0 :: s1 :: s2 :: s3 :: s4 :: s5 :: s6 :: s7 :: s8 :: s9 :: s10 :: s11 :: s12 :: s13 :: s14 :: s15 :: s16 :: s17 :: s18 :: s19 :: s20 :: s21 :: s22 :: s23 :: s24 :: []), h)) (awp X n c12_11 Q ((s0 :: s1 :: s2 :: s3 :: s4 :: s5 :: s6 :: s7 :: s8 :: s9 :: s10 :: s11 :: s12 :: s13 :: s14 :: s15 :: s16 :: s17 :: s18 :: s19 :: s20 :: s21 :: s22 :: s23 :: s24 :: []), h)) := by rw [awp_eq]; kernel_rfl
theorem w12_5 (n : Nat) (Q : Qt) (st : St) : awp X n c12_5 Q st = awp X n c12_6 (thenQ (awp X n c12_7 Q) Q) st := by rw [awp_eq]; kernel_rfl
noncomputable def c12_12 : Code := cr c12_4
noncomputable def c12_13 : Code := cl c12_12
theorem w12_13 (s0 s1 s2 s3 s4 s5 s6 s7 s8 s9 s10 s11 s12 s13 s14 s15 s16 s17 s18 s19 s20 s21 s22 s23 s24 : AV) (n : Nat) (h : Heap) (Q : Qt) : awp X n c12_13 Q ((s0 :: s1 :: s2 :: s3 :: s4 :: s5 :: s6 :: s7 :: s8 :: s9 :: s10 :: s11 :: s12 :: s13 :: s14 :: s15 :: s16 :: s17 :: s18 :: s19 :: s20 :: s21 :: s22 :: s23 :: s24 :: []), h) = (a_mov s0 h (.c (fun t22 h1 => a_mov s2 h1 (.c (fun t23 h2 => a_app 1 1 t22 t23 h2 (.c (fun t24 h3 => a_mov t24 h3 (.c (fun t6 h4 => a_mov (.v (.int .i64 0)) h4 (.c (fun t7 h5 => Q .normal ((s0 :: s1 :: s2 :: s3 :: s4 :: s5 :: t6 :: t7 :: s8 :: s9 :: s10 :: s11 :: s12 :: s13 :: s14 :: s15 :: s16 :: s17 :: s18 :: s19 :: s20 :: s21 :: t22 :: t23 :: t24 :: []), h5)) ())) ())) ())) ())) ())) := by rw [awp_eq]; kernel_rfl
noncomputable def c12_14 : Code := cr c12_12
theorem w12_14 (n : Nat) (Q : Qt) (st : St) : awp X n c12_14 Q st = Q .ret st := by rw [awp_eq]; kernel_rfl
theorem w12_12 (n : Nat) (Q : Qt) (st : St) : awp X n c12_12 Q st = awp X n c12_13 (thenQ (awp X n c12_14 Q) Q) st := by rw [awp_eq]; kernel_rfl
theorem w12_4 (n : Nat) (Q : Qt) (st : St) : awp X n c12_4 Q st = awp X n c12_5 (thenQ (awp X n c12_12 Q) Q) st := by rw [awp_eq]; kernel_rfl
theorem w12_2 (n : Nat) (Q : Qt) (st : St) : awp X n c12_2 Q st = awp X n c12_3 (thenQ (awp X n c12_4 Q) Q) st := by rw [awp_eq]; kernel_rfl
theorem w12_0 (n : Nat) (Q : Qt) (st : St) : awp X n c12_0 Q st = awp X n c12_1 (thenQ (awp X n c12_2 Q) Q) st := by rw [awp_eq]; kernel_rfl
theorem q12_ret (s0 s1 s2 s3 s4 s5 s6 s7 s8 s9 s10 s11 s12 s13 s14 s15 s16 s17 s18 s19 s20 s21 s22 s23 s24 : AV) (h : Heap) (K : Kt) : retQ X Tryd.f12 K .ret ((s0 :: s1 :: s2 :: s3 :: s4 :: s5 :: s6 :: s7 :: s8 :: s9 :: s10 :: s11 :: s12 :: s13 :: s14 :: s15 :: s16 :: s17 :: s18 :: s19 :: s20 :: s21 :: s22 :: s23 :: s24 :: []), h) = (K.K (.t [s6, s7]) h) := by kernel_rfl
theorem q12_normal (s0 s1 s2 s3 s4 s5 s6 s7 s8 s9 s10 s11 s12 s13 s14 s15 s16 s17 s18 s19 s20 s21 s22 s23 s24 : AV) (h : Heap) (K : Kt) : retQ X Tryd.f12 K .normal ((s0 :: s1 :: s2 :: s3 :: s4 :: s5 :: s6 :: s7 :: s8 :: s9 :: s10 :: s11 :: s12 :: s13 :: s14 :: s15 :: s16 :: s17 :: s18 :: s19 :: s20 :: s21 :: s22 :: s23 :: s24 :: []), h) = (K.K (.t [s6, s7]) h) := by kernel_rfl
theorem i12 (a0 a1 a2 : AV) (h : Heap) (K : Kt) (H : awp X h.length c12_0 (retQ X Tryd.f12 K) ((a0 :: a1 :: a2 :: .bad :: .bad :: .bad :: .bad :: .bad :: .bad :: .bad :: .bad :: .bad :: .bad :: .bad :: .bad :: .bad :: .bad :: .bad :: .bad :: .bad :: .bad :: .bad :: .bad :: .bad :: .bad :: []), h)) : ACall X 12 [a0, a1, a2] h K := acall_intro (fn := Tryd.f12) (by kernel_rfl) (by kernel_rfl) (by kernel_rfl) H
/-! function 14: sindri/length.Body -/
noncomputable def c14_0 : Code := bodyOf Tryd.f14
noncomputable def c14_1 : Code := cl c14_0
theorem w14_1 (s0 s1 s2 s3 s4 s5 s6 s7 s8 s9 s10 s11 s12 s13 s14 s15 s16 s17 s18 s19 : AV) (n : Nat) (h : Heap) (Q : Qt) : awp X n c14_1 Q ((s0 :: s1 :: s2 :: s3 :: s4 :: s5 :: s6 :: s7 :: s8 :: s9 :: s10 :: s11 :: s12 :: s13 :: s14 :: s15 :: s16 :: s17 :: s18 :: s19 :: []), h) = (a_mov (.v (.pointer none)) h (.c (fun t2 h1 => a_mov (.v (.bool false)) h1 (.c (fun t3 h2 => Q .normal ((s0 :: s1 :: t2 :: t3 :: s4 :: s5 :: s6 :: s7 :: s8 :: s9 :: s10 :: s11 :: s12 :: s13 :: s14 :: s15 :: s16 :: s17 :: s18 :: s19 :: []), h2)) ())) ())) := by rw [awp_eq]; kernel_rfl
noncomputable def c14_2 : Code := cr c14_0
noncomputable def c14_3 : Code := cl c14_2
theorem w14_3 (s0 s1 s2 s3 s4 s5 s6 s7 s8 s9 s10 s11 s12 s13 s14 s15 s16 s17 s18 s19 : AV) (n : Nat) (h : Heap) (Q : Qt) : awp X n c14_3 Q ((s0 :: s1 :: s2 :: s3 :: s4 :: s5 :: s6 :: s7 :: s8 :: s9 :: s10 :: s11 :: s12 :: s13 :: s14 :: s15 :: s16 :: s17 :: s18 :: s19 :: []), h) = (a_mov s0 h (.c (fun t6 h1 => ACall X 17 [t6] h1 (.c (fun t7 h2 => a_mov t7 h2 (.c (fun t5 h3 => a_ext 0 t5 h3 (.c (fun t8 h4 => a_ext 1 t5 h4 (.c (fun t9 h5 => a_mov t8 h5 (.c (fun t4 h6 => a_mov t9 h6 (.c (fun t3 h7 => Q .normal ((s0 :: s1 :: s2 :: t3 :: t4 :: t5 :: t6 :: t7 :: t8 :: t9 :: s10 :: s11 :: s12 :: s13 :: s14 :: s15 :: s16 :: s17 :: s18 :: s19 :: []), h7)) ())) ())) ())) ())) ())) ())) ())) := by rw [awp_eq]; kernel_rfl
noncomputable def c14_4 : Code := cr c14_2
noncomputable def c14_5 : Code := cl c14_4
theorem w14_5 (s0 s1 s2 s3 s4 s5 s6 s7 s8 s9 s10 s11 s12 s13 s14 s15 s16 s17 s18 s19 : AV) (n : Nat) (h : Heap) (Q : Qt) : awp X n c14_5 Q ((s0 :: s1 :: s2 :: s3 :: s4 :: s5 :: s6 :: s7 :: s8 :: s9 :: s10 :: s11 :: s12 :: s13 :: s14 :: s15 :: s16 :: s17 :: s18 :: s19 :: []), h) = (a_mov s0 h (.c (fun t10 h1 => a_mov s4 h1 (.c (fun t11 h2 => ACall X 27 [t10, t11] h2 (.c (fun t12 h3 => a_mov t12 h3 (.c (fun t2 h4 => Q .normal ((s0 :: s1 :: t2 :: s3 :: s4 :: s5 :: s6 :: s7 :: s8 :: s9 :: t10 :: t11 :: t12 :: s13 :: s14 :: s15 :: s16 :: s17 :: s18 :: s19 :: []), h4)) ())) ())) ())) ())) := by rw [awp_eq]; kernel_rfl
noncomputable def c14_6 : Code := cr c14_4
noncomputable def c14_7 : Code := cl c14_6
theorem w14_7 (s0 s1 s2 s3 s4 s5 s6 s7 s8 s9 s10 s11 s12 s13 s14 s15 s16 s17 s18 s19 : AV) (n : Nat) (h : Heap) (Q : Qt) : awp X n c14_7 Q ((s0 :: s1 :: s2 :: s3 :: s4 :: s5 :: s6 :: s7 :: s8 :: s9 :: s10 :: s11 :: s12 :: s13 :: s14 :: s15 :: s16 :: s17 :: s18 :: s19 :: []), h) = (a_mov s2 h (.c (fun t13 h1 => a_mov s3 h1 (.c (fun t14 h2 => a_mov t14 h2 (.c (fun t15 h3 => a_on t15 true (fun k => a_mov s2 h3 k) h3 (.c (fun t16 h4 => a_on t15 true (fun k => ACall X 20 [t16] h4 k) h4 (.c (fun t17 h5 => a_on t15 true (fun k => a_bin .eql t17 (.v (.int .i64 0)) h5 k) h5 (.c (fun t18 h6 => a_pick t15 t18 (.v (.bool false)) h6 (.c (fun t19 h7 => a_mov t13 h7 (.c (fun t2 h8 => a_mov t19 h8 (.c (fun t3 h9 => Q .normal ((s0 :: s1 :: t2 :: t3 :: s4 :: s5 :: s6 :: s7 :: s8 :: s9 :: s10 :: s11 :: s12 :: t13 :: t14 :: t15 :: t16 :: t17 :: t18 :: t19 :: []), h9)) ())) ())) ())) ())) ())) ())) ())) ())) ())) := by rw [awp_eq]; kernel_rfl
noncomputable def c14_8 : Code := cr c14_6
theorem w14_8 (n : Nat) (Q : Qt) (st : St) : awp X n c14_8 Q st = Q .ret st := by rw [awp_eq]; kernel_rfl
theorem w14_6 (n : Nat) (Q : Qt) (st : St) : awp X n c14_6 Q st = awp X n c14_7 (thenQ (awp X n c14_8 Q) Q) st := by rw [awp_eq]; kernel_rfl
theorem w14_4 (n : Nat) (Q : Qt) (st : St) : awp X n c14_4 Q st = awp X n c14_5 (thenQ (awp X n c14_6 Q) Q) st := by rw [awp_eq]; kernel_rfl
theorem w14_2 (n : Nat) (Q : Qt) (st : St) : awp X n c14_2 Q st = awp X n c14_3 (thenQ (awp X n c14_4 Q) Q) st := by rw [awp_eq]; kernel_rfl
theorem w14_0 (n : Nat) (Q : Qt) (st : St) : awp X n c14_0 Q st = awp X n c14_1 (thenQ (awp X n c14_2 Q) Q) st := by rw [awp_eq]; kernel_rfl
theorem q14_ret (s0 s1 s2 s3 s4 s5 s6 s7 s8 s9 s10 s11 s12 s13 s14 s15 s16 s17 s18 s19 : AV) (h : Heap) (K : Kt) : retQ X Tryd.f14 K .ret ((s0 :: s1 :: s2 :: s3 :: s4 :: s5 :: s6 :: s7 :: s8 :: s9 :: s10 :: s11 :: s12 :: s13 :: s14 :: s15 :: s16 :: s17 :: s18 :: s19 :: []), h) = (K.K (.t [s2, s3]) h) := by kernel_rfl
theorem q14_normal (s0 s1 s2 s3 s4 s5 s6 s7 s8 s9 s10 s11 s12 s13 s14 s15 s16 s17 s18 s19 : AV) (h : Heap) (K : Kt) : retQ X Tryd.f14 K .normal ((s0 :: s1 :: s2 :: s3 :: s4 :: s5 :: s6 :: s7 :: s8 :: s9 :: s10 :: s11 :: s12 :: s13 :: s14 :: s15 :: s16 :: s17 :: s18 :: s19 :: []), h) = (K.K (.t [s2, s3]) h) := by kernel_rfl
theorem i14 (a0 : AV) (h : Heap) (K : Kt) (H : awp X h.length c14_0 (retQ X Tryd.f14 K) ((a0 :: .bad :: .bad :: .bad :: .bad :: .bad :: .bad :: .bad :: .bad :: .bad :: .bad :: .bad :: .bad :: .bad :: .bad :: .bad :: .bad :: .bad :: .bad :: .bad :: []), h)) : ACall X 14 [a0] h K := acall_intro (fn := Tryd.f14) (by kernel_rfl) (by kernel_rfl) (by kernel_rfl) H
/-! function 17: sindri/length.Take -/
noncomputable def c17_0 : Code := bodyOf Tryd.f17
noncomputable def c17_1 : Code := cl c17_0
theorem w17_1 (s0 s1 s2 s3 s4 s5 s6 s7 s8 s9 s10 s11 s12 s13 s14 s15 s16 s17 s18 s19 s20 s21 s22 s23 s24 s25 s26 : AV) (n : Nat) (h : Heap) (Q : Qt) : awp X n c17_1 Q ((s0 :: s1 :: s2 :: s3 :: s4 :: s5 :: s6 :: s7 :: s8 :: s9 :: s10 :: s11 :: s12 :: s13 :: s14 :: s15 :: s16 :: s17 :: s18 :: s19 :: s20 :: s21 :: s22 :: s23 :: s24 :: s25 :: s26 :: []), h) = (a_mov (.v (.int .u64 0)) h (.c (fun t2 h1 => a_mov (.v (.bool false)) h1 (.c (fun t3 h2 => Q .normal ((s0 :: s1 :: t2 :: t3 :: s4 :: s5 :: s6 :: s7 :: s8 :: s9 :: s10 :: s11 :: s12 :: s13 :: s14 :: s15 :: s16 :: s17 :: s18 :: s19 :: s20 :: s21 :: s22 :: s23 :: s24 :: s25 :: s26 :: []), h2)) ())) ())) := by rw [awp_eq]; kernel_rfl
noncomputable def c17_2 : Code := cr c17_0
noncomputable def c17_3 : Code := cl c17_2
theorem w17_3 (s0 s1 s2 s3 s4 s5 s6 s7 s8 s9 s10 s11 s12 s13 s14 s15 s16 s17 s18 s19 s20 s21 s22 s23 s24 s25 s26 : AV) (n : Nat) (h : Heap) (Q : Qt) : awp X n c17_3 Q ((s0 :: s1 :: s2 :: s3 :: s4 :: s5 :: s6 :: s7 :: s8 :: s9 :: s10 :: s11 :: s12 :: s13 :: s14 :: s15 :: s16 :: s17 :: s18 :: s19 :: s20 :: s21 :: s22 :: s23 :: s24 :: s25 :: s26 :: []), h) = (a_mov s0 h (.c (fun t4 h1 => ACall X 10 [(.v (.bool false))] h1 (.c (fun t5 h2 => ACall X 29 [t4, t5] h2 (.c (fun t6 h3 => a_mov t6 h3 (.c (fun t2 h4 => Q .normal ((s0 :: s1 :: t2 :: s3 :: t4 :: t5 :: t6 :: s7 :: s8 :: s9 :: s10 :: s11 :: s12 :: s13 :: s14 :: s15 :: s16 :: s17 :: s18 :: s19 :: s20 :: s21 :: s22 :: s23 :: s24 :: s25 :: s26 :: []), h4)) ())) ())) ())) ())) := by rw [awp_eq]; kernel_rfl
noncomputable def c17_4 : Code := cr c17_2
noncomputable def c17_5 : Code := cl c17_4
noncomputable def c17_6 : Code := cl c17_5
noncomputable def c17_7 : Code := cl c17_6
theorem w17_7 (s0 s1 s2 s3 s4 s5 s6 s7 s8 s9 s10 s11 s12 s13 s14 s15 s16 s17 s18 s19 s20 s21 s22 s23 s24 s25 s26 : AV) (n : Nat) (h : Heap) (Q : Qt) : awp X n c17_7 Q ((s0 :: s1 :: s2 :: s3 :: s4 :: s5 :: s6 :: s7 :: s8 :: s9 :: s10 :: s11 :: s12 :: s13 :: s14 :: s15 :: s16 :: s17 :: s18 :: s19 :: s20 :: s21 :: s22 :: s23 :: s24 :: s25 :: s26 :: []), h) = (a_mov s0 h (.c (fun t8 h1 => ACall X 20 [t8] h1 (.c (fun t9 h2 => a_bin .neq t9 (.v (.int .i64 0)) h2 (.c (fun t10 h3 => a_mov t10 h3 (.c (fun t7 h4 => Q .normal ((s0 :: s1 :: s2 :: s3 :: s4 :: s5 :: s6 :: t7 :: t8 :: t9 :: t10 :: s11 :: s12 :: s13 :: s14 :: s15 :: s16 :: s17 :: s18 :: s19 :: s20 :: s21 :: s22 :: s23 :: s24 :: s25 :: s26 :: []), h4)) ())) ())) ())) ())) := by rw [awp_eq]; kernel_rfl
noncomputable def c17_8 : Code := cr c17_6
noncomputable def c17_9 : Code := cl c17_8
noncomputable def c17_10 : Code := cl c17_9
theorem w17_10 (s0 s1 s2 s3 s4 s5 s6 s7 s8 s9 s10 s11 s12 s13 s14 s15 s16 s17 s18 s19 s20 s21 s22 s23 s24 s25 s26 : AV) (n : Nat) (h : Heap) (Q : Qt) : awp X n c17_10 Q ((s0 :: s1 :: s2 :: s3 :: s4 :: s5 :: s6 :: s7 :: s8 :: s9 :: s10 :: s11 :: s12 :: s13 :: s14 :: s15 :: s16 :: s17 :: s18 :: s19 :: s20 :: s21 :: s22 :: s23 :: s24 :: s25 :: s26 :: []), h) = (a_mov (.v (.int .u64 0)) h (.c (fun t2 h1 => a_mov (.v (.bool false)) h1 (.c (fun t3 h2 => Q .normal ((s0 :: s1 :: t2 :: t3 :: s4 :: s5 :: s6 :: s7 :: s8 :: s9 :: s10 :: s11 :: s12 :: s13 :: s14 :: s15 :: s16 :: s17 :: s18 :: s19 :: s20 :: s21 :: s22 :: s23 :: s24 :: s25 :: s26 :: []), h2)) ())) ())) := by rw [awp_eq]; kernel_rfl
noncomputable def c17_11 : Code := cr c17_9
theorem w17_11 (n : Nat) (Q : Qt) (st : St) : awp X n c17_11 Q st = Q .ret st := by rw [awp_eq]; kernel_rfl
theorem w17_9 (n : Nat) (Q : Qt) (st : St) : awp X n c17_9 Q st = awp X n c17_10 (thenQ (awp X n c17_11 Q) Q) st := by rw [awp_eq]; kernel_rfl
noncomputable def c17_12 : Code := cr c17_8
noncomputable def c17_13 : Code := cl c17_12
theorem w17_13 (s0 s1 s2 s3 s4 s5 s6 s7 s8 s9 s10 s11 s12 s13 s14 s15 s16 s17 s18 s19 s20 s21 s22 s23 s24 s25 s26 : AV) (n : Nat) (h : Heap) (Q : Qt) : awp X n c17_13 Q ((s0 :: s1 :: s2 :: s3 :: s4 :: s5 :: s6 :: s7 :: s8 :: s9 :: s10 :: s11 :: s12 :: s13 :: s14 :: s15 :: s16 :: s17 :: s18 :: s19 :: s20 :: s21 :: s22 :: s23 :: s24 :: s25 :: s26 :: []), h) = (a_mov s2 h (.c (fun t12 h1 => a_bin .lss t12 (.v (.int .u64 4294967280)) h1 (.c (fun t13 h2 => a_mov t13 h2 (.c (fun t11 h3 => Q .normal ((s0 :: s1 :: s2 :: s3 :: s4 :: s5 :: s6 :: s7 :: s8 :: s9 :: s10 :: t11 :: t12 :: t13 :: s14 :: s15 :: s16 :: s17 :: s18 :: s19 :: s20 :: s21 :: s22 :: s23 :: s24 :: s25 :: s26 :: []), h3)) ())) ())) ())) := by rw [awp_eq]; kernel_rfl
noncomputable def c17_14 : Code := cr c17_12
noncomputable def c17_15 : Code := cl c17_14
noncomputable def c17_16 : Code := cl c17_15
theorem w17_16 (s0 s1 s2 s3 s4 s5 s6 s7 s8 s9 s10 s11 s12 s13 s14 s15 s16 s17 s18 s19 s20 s21 s22 s23 s24 s25 s26 : AV) (n : Nat) (h : Heap) (Q : Qt) : awp X n c17_16 Q ((s0 :: s1 :: s2 :: s3 :: s4 :: s5 :: s6 :: s7 :: s8 :: s9 :: s10 :: s11 :: s12 :: s13 :: s14 :: s15 :: s16 :: s17 :: s18 :: s19 :: s20 :: s21 :: s22 :: s23 :: s24 :: s25 :: s26 :: []), h) = (a_mov s2 h (.c (fun t14 h1 => a_mov t14 h1 (.c (fun t2 h2 => a_mov (.v (.bool false)) h2 (.c (fun t3 h3 => Q .normal ((s0 :: s1 :: t2 :: t3 :: s4 :: s5 :: s6 :: s7 :: s8 :: s9 :: s10 :: s11 :: s12 :: s13 :: t14 :: s15 :: s16 :: s17 :: s18 :: s19 :: s20 :: s21 :: s22 :: s23 :: s24 :: s25 :: s26 :: []), h3)) ())) ())) ())) := by rw [awp_eq]; kernel_rfl
noncomputable def c17_17 : Code := cr c17_15
theorem w17_17 (n : Nat) (Q : Qt) (st : St) : awp X n c17_17 Q st = Q .ret st := by rw [awp_eq]; kernel_rfl
theorem w17_15 (n : Nat) (Q : Qt) (st : St) : awp X n c17_15 Q st = awp X n c17_16 (thenQ (awp X n c17_17 Q) Q) st := by rw [awp_eq]; kernel_rfl
noncomputable def c17_18 : Code := cr c17_14
noncomputable def c17_19 : Code := cl c17_18
theorem w17_19 (s0 s1 s2 s3 s4 s5 s6 s7 s8 s9 s10 s11 s12 s13 s14 s15 s16 s17 s18 s19 s20 s21 s22 s23 s24 s25 s26 : AV) (n : Nat) (h : Heap) (Q : Qt) : awp X n c17_19 Q ((s0 :: s1 :: s2 :: s3 :: s4 :: s5 :: s6 :: s7 :: s8 :: s9 :: s10 :: s11 :: s12 :: s13 :: s14 :: s15 :: s16 :: s17 :: s18 :: s19 :: s20 :: s21 :: s22 :: s23 :: s24 :: s25 :: s26 :: []), h) = (a_mov s2 h (.c (fun t16 h1 => a_bin .neq t16 (.v (.int .u64 4294967295)) h1 (.c (fun t17 h2 => a_mov t17 h2 (.c (fun t15 h3 => Q .normal ((s0 :: s1 :: s2 :: s3 :: s4 :: s5 :: s6 :: s7 :: s8 :: s9 :: s10 :: s11 :: s12 :: s13 :: s14 :: t15 :: t16 :: t17 :: s18 :: s19 :: s20 :: s21 :: s22 :: s23 :: s24 :: s25 :: s26 :: []), h3)) ())) ())) ())) := by rw [awp_eq]; kernel_rfl
noncomputable def c17_20 : Code := cr c17_18
noncomputable def c17_21 : Code := cl c17_20
noncomputable def c17_22 : Code := cl c17_21
theorem w17_22 (s0 s1 s2 s3 s4 s5 s6 s7 s8 s9 s10 s11 s12 s13 s14 s15 s16 s17 s18 s19 s20 s21 s22 s23 s24 s25 s26 : AV) (n : Nat) (h : Heap) (Q : Qt) : awp X n c17_22 Q ((s0 :: s1 :: s2 :: s3 :: s4 :: s5 :: s6 :: s7 :: s8 :: s9 :: s10 :: s11 :: s12 :: s13 :: s14 :: s15 :: s16 :: s17 :: s18 :: s19 :: s20 :: s21 :: s22 :: s23 :: s24 :: s25 :: s26 :: []), h) = (a_mov s0 h (.c (fun t18 h1 => ACall X 30 [t18, (.v (.int .i64 13))] h1 (.c (fun t19 h2 => Q .normal ((s0 :: s1 :: s2 :: s3 :: s4 :: s5 :: s6 :: s7 :: s8 :: s9 :: s10 :: s11 :: s12 :: s13 :: s14 :: s15 :: s16 :: s17 :: t18 :: t19 :: s20 :: s21 :: s22 :: s23 :: s24 :: s25 :: s26 :: []), h2)) ())) ())) := by rw [awp_eq]; kernel_rfl
noncomputable def c17_23 : Code := cr c17_21
noncomputable def c17_24 : Code := cl c17_23
theorem w17_24 (s0 s1 s2 s3 s4 s5 s6 s7 s8 s9 s10 s11 s12 s13 s14 s15 s16 s17 s18 s19 s20 s21 s22 s23 s24 s25 s26 : AV) (n : Nat) (h : Heap) (Q : Qt) : awp X n c17_24 Q ((s0 :: s1 :: s2 :: s3 :: s4 :: s5 :: s6 :: s7 :: s8 :: s9 :: s10 :: s11 :: s12 :: s13 :: s14 :: s15 :: s16 :: s17 :: s18 :: s19 :: s20 :: s21 :: s22 :: s23 :: s24 :: s25 :: s26 :: []), h) = (a_mov (.v (.int .u64 0)) h (.c (fun t2 h1 => a_mov (.v (.bool false)) h1 (.c (fun t3 h2 => Q .normal ((s0 :: s1 :: t2 :: t3 :: s4 :: s5 :: s6 :: s7 :: s8 :: s9 :: s10 :: s11 :: s12 :: s13 :: s14 :: s15 :: s16 :: s17 :: s18 :: s19 :: s20 :: s21 :: s22 :: s23 :: s24 :: s25 :: s26 :: []), h2)) ())) ())) := by rw [awp_eq]; kernel_rfl
noncomputable def c17_25 : Code := cr c17_23
theorem w17_25 (n : Nat) (Q : Qt) (st : St) : awp X n c17_25 Q st = Q .ret st := by rw [awp_eq]; kernel_rfl
theorem w17_23 (n : Nat) (Q : Qt) (st : St) : awp X n c17_23 Q st = awp X n c17_24 (thenQ (awp X n c17_25 Q) Q) st := by rw [awp_eq]; kernel_rfl
theorem w17_21 (n : Nat) (Q : Qt) (st : St) : awp X n c17_21 Q st = awp X n c17_22 (thenQ (awp X n c17_23 Q) Q) st := by rw [awp_eq]; kernel_rfl
noncomputable def c17_26 : Code := cr c17_20
theorem w17_26 (n : Nat) (Q : Qt) (st : St) : awp X n c17_26 Q st = Q .normal st := by rw [awp_eq]; kernel_rfl
theorem w17_20 (s0 s1 s2 s3 s4 s5 s6 s7 s8 s9 s10 s11 s12 s13 s14 s15 s16 s17 s18 s19 s20 s21 s22 s23 s24 s25 s26 : AV) (n : Nat) (h : Heap) (Q : Qt) : awp X n c17_20 Q ((s0 :: s1 :: s2 :: s3 :: s4 :: s5 :: s6 :: s7 :: s8 :: s9 :: s10 :: s11 :: s12 :: s13 :: s14 :: s15 :: s16 :: s17 :: s18 :: s19 :: s20 :: s21 :: s22 :: s23 :: s24 :: s25 :: s26 :: []), h) = a_cond s15 (awp X n c17_21 Q ((s0 :: s1 :: s2 :: s3 :: s4 :: s5 :: s6 :: s7 :: s8 :: s9 :: s10 :: s11 :: s12 :: s13 :: s14 :: s15 :: s16 :: s17 :: s18 :: s19 :: s20 :: s21 :: s22 :: s23 :: s24 :: s25 :: s26 :: []), h)) (awp X n c17_26 Q ((s0 :: s1 :: s2 :: s3 :: s4 :: s5 :: s6 :: s7 :: s8 :: s9 :: s10 :: s11 :: s12 :: s13 :: s14 :: s15 :: s16 :: s17 :: s18 :: s19 :: s20 :: s21 :: s22 :: s23 :: s24 :: s25 :: s26 :: []), h)) := by rw [awp_eq]; kernel_rfl
theorem w17_18 (n : Nat) (Q : Qt) (st : St) : awp X n c17_18 Q st = awp X n c17_19 (thenQ (awp X n c17_20 Q) Q) st := by rw [awp_eq]; kernel_rfl
theorem w17_14 (s0 s1 s2 s3 s4 s5 s6 s7 s8 s9 s10 s11 s12 s13 s14 s15 s16 s17 s18 s19 s20 s21 s22 s23 s24 s25 s26 : AV) (n : Nat) (h : Heap) (Q : Qt) : awp X n c17_14 Q ((s0 :: s1 :: s2 :: s3 :: s4 :: s5 :: s6 :: s7 :: s8 :: s9 :: s10 :: s11 :: s12 :: s13 :: s14 :: s15 :: s16 :: s17 :: s18 :: s19 :: s20 :: s21 :: s22 :: s23 :: s24 :: s25 :: s26 :: []), h) = a_cond s11 (awp X n c17_15 Q ((s0 :: s1 :: s2 :: s3 :: s4 :: s5 :: s6 :: s7 :: s8 :: s9 :: s10 :: s11 :: s12 :: s13 :: s14 :: s15 :: s16 :: s17 :: s18 :: s19 :: s20 :: s21 :: s22 :: s23 :: s24 :: s25 :: s26 :: []), h)) (awp X n c17_18 Q ((s0 :: s1 :: s2 :: s3 :: s4 :: s5 :: s6 :: s7 :: s8 :: s9 :: s10 :: s11 :: s12 :: s13 :: s14 :: s15 :: s16 :: s17 :: s18 :: s19 :: s20 :: s21 :: s22 :: s23 :: s24 :: s25 :: s26 :: []), h)) := by rw [awp_eq]; kernel_rfl
theorem w17_12 (n : Nat) (Q : Qt) (st : St) : awp X n c17_12 Q st = awp X n c17_13 (thenQ (awp X n c17_14 Q) Q) st := by rw [awp_eq]; kernel_rfl
theorem w17_8 (s0 s1 s2 s3 s4 s5 s6 s7 s8 s9 s10 s11 s12 s13 s14 s15 s16 s17 s18 s19 s20 s21 s22 s23 s24 s25 s26 : AV) (n : Nat) (h : Heap) (Q : Qt) : awp X n c17_8 Q ((s0 :: s1 :: s2 :: s3 :: s4 :: s5 :: s6 :: s7 :: s8 :: s9 :: s10 :: s11 :: s12 :: s13 :: s14 :: s15 :: s16 :: s17 :: s18 :: s19 :: s20 :: s21 :: s22 :: s23 :: s24 :: s25 :: s26 :: []), h) = a_cond s7 (awp X n c17_9 Q ((s0 :: s1 :: s2 :: s3 :: s4 :: s5 :: s6 :: s7 :: s8 :: s9 :: s10 :: s11 :: s12 :: s13 :: s14 :: s15 :: s16 :: s17 :: s18 :: s19 :: s20 :: s21 :: s22 :: s23 :: s24 :: s25 :: s26 :: []), h)) (awp X n c17_12 Q ((s0 :: s1 :: s2 :: s3 :: s4 :: s5 :: s6 :: s7 :: s8 :: s9 :: s10 :: s11 :: s12 :: s13 :: s14 :: s15 :: s16 :: s17 :: s18 :: s19 :: s20 :: s21 :: s22 :: s23 :: s24 :: s25 :: s26 :: []), h)) := by rw [awp_eq]; kernel_rfl
theorem w17_6 (n : Nat) (Q : Qt) (st : St) : awp X n c17_6 Q st = awp X n c17_7 (thenQ (awp X n c17_8 Q) Q) st := by rw [awp_eq]; kernel_rfl
theorem w17_5 (n : Nat) (Q : Qt) (st : St) : awp X n c17_5 Q st = awp X n c17_6 (blockQ 0 Q) st := by rw [awp_eq]; kernel_rfl
noncomputable def c17_27 : Code := cr c17_4
noncomputable def c17_28 : Code := cl c17_27
theorem w17_28 (s0 s1 s2 s3 s4 s5 s6 s7 s8 s9 s10 s11 s12 s13 s14 s15 s16 s17 s18 s19 s20 s21 s22 s23 s24 s25 s26 : AV) (n : Nat) (h : Heap) (Q : Qt) : awp X n c17_28 Q ((s0 :: s1 :: s2 :: s3 :: s4 :: s5 :: s6 :: s7 :: s8 :: s9 :: s10 :: s11 :: s12 :: s13 :: s14 :: s15 :: s16 :: s17 :: s18 :: s19 :: s20 :: s21 :: s22 :: s23 :: s24 :: s25 :: s26 :: []), h) = (a_mov s0 h (.c (fun t20 h1 => ACall X 10 [(.v (.bool true))] h1 (.c (fun t21 h2 => ACall X 29 [t20, t21] h2 (.c (fun t22 h3 => a_mov t22 h3 (.c (fun t2 h4 => Q .normal ((s0 :: s1 :: t2 :: s3 :: s4 :: s5 :: s6 :: s7 :: s8 :: s9 :: s10 :: s11 :: s12 :: s13 :: s14 :: s15 :: s16 :: s17 :: s18 :: s19 :: t20 :: t21 :: t22 :: s23 :: s24 :: s25 :: s26 :: []), h4)) ())) ())) ())) ())) := by rw [awp_eq]; kernel_rfl
noncomputable def c17_29 : Code := cr c17_27
noncomputable def c17_30 : Code := cl c17_29
theorem w17_30 (s0 s1 s2 s3 s4 s5 s6 s7 s8 s9 s10 s11 s12 s13 s14 s15 s16 s17 s18 s19 s20 s21 s22 s23 s24 s25 s26 : AV) (n : Nat) (h : Heap) (Q : Qt) : awp X n c17_30 Q ((s0 :: s1 :: s2 :: s3 :: s4 :: s5 :: s6 :: s7 :: s8 :: s9 :: s10 :: s11 :: s12 :: s13 :: s14 :: s15 :: s16 :: s17 :: s18 :: s19 :: s20 :: s21 :: s22 :: s23 :: s24 :: s25 :: s26 :: []), h) = (a_mov s2 h (.c (fun t23 h1 => a_mov s0 h1 (.c (fun t24 h2 => ACall X 20 [t24] h2 (.c (fun t25 h3 => a_bin .eql t25 (.v (.int .i64 0)) h3 (.c (fun t26 h4 => a_mov t23 h4 (.c (fun t2 h5 => a_mov t26 h5 (.c (fun t3 h6 => Q .normal ((s0 :: s1 :: t2 :: t3 :: s4 :: s5 :: s6 :: s7 :: s8 :: s9 :: s10 :: s11 :: s12 :: s13 :: s14 :: s15 :: s16 :: s17 :: s18 :: s19 :: s20 :: s21 :: s22 :: t23 :: t24 :: t25 :: t26 :: []), h6)) ())) ())) ())) ())) ())) ())) := by rw [awp_eq]; kernel_rfl
noncomputable def c17_31 : Code := cr c17_29
theorem w17_31 (n : Nat) (Q : Qt) (st : St) : awp X n c17_31 Q st = Q .ret st := by rw [awp_eq]; kernel_rfl
theorem w17_29 (n : Nat) (Q : Qt) (st : St) : awp X n c17_29 Q st = awp X n c17_30 (thenQ (awp X n c17_31 Q) Q) st := by rw [awp_eq]; kernel_rfl
theorem w17_27 (n : Nat) (Q : Qt) (st : St) : awp X n c17_27 Q st = awp X n c17_28 (thenQ (awp X n c17_29 Q) Q) st := by rw [awp_eq]; kernel_rfl
theorem w17_4 (n : Nat) (Q : Qt) (st : St) : awp X n c17_4 Q st = awp X n c17_5 (thenQ (awp X n c17_27 Q) Q) st := by rw [awp_eq]; kernel_rfl
theorem w17_2 (n : Nat) (Q : Qt) (st : St) : awp X n c17_2 Q st = awp X n c17_3 (thenQ (awp X n c17_4 Q) Q) st := by rw [awp_eq]; kernel_rfl
theorem w17_0 (n : Nat) (Q : Qt) (st : St) : awp X n c17_0 Q st = awp X n c17_1 (thenQ (awp X n c17_2 Q) Q) st := by rw [awp_eq]; kernel_rfl
theorem q17_ret (s0 s1 s2 s3 s4 s5 s6 s7 s8 s9 s10 s11 s12 s13 s14 s15 s16 s17 s18 s19 s20 s21 s22 s23 s24 s25 s26 : AV) (h : Heap) (K : Kt) : retQ X Tryd.f17 K .ret ((s0 :: s1 :: s2 :: s3 :: s4 :: s5 :: s6 :: s7 :: s8 :: s9 :: s10 :: s11 :: s12 :: s13 :: s14 :: s15 :: s16 :: s17 :: s18 :: s19 :: s20 :: s21 :: s22 :: s23 :: s24 :: s25 :: s26 :: []), h) = (K.K (.t [s2, s3]) h) := by kernel_rfl
theorem q17_normal (s0 s1 s2 s3 s4 s5 s6 s7 s8 s9 s10 s11 s12 s13 s14 s15 s16 s17 s18 s19 s20 s21 s22 s23 s24 s25 s26 : AV) (h : Heap) (K : Kt) : retQ X Tryd.f17 K .normal ((s0 :: s1 :: s2 :: s3 :: s4 :: s5 :: s6 :: s7 :: s8 :: s9 :: s10 :: s11 :: s12 :: s13 :: s14 :: s15 :: s16 :: s17 :: s18 :: s19 :: s20 :: s21 :: s22 :: s23 :: s24 :: s25 :: s26 :: []), h) = (K.K (.t [s2, s3]) h) := by kernel_rfl
theorem i17 (a0 : AV) (h : Heap) (K : Kt) (H : awp X h.length c17_0 (retQ X Tryd.f17 K) ((a0 :: .bad :: .bad :: .bad :: .bad :: .bad :: .bad :: .bad :: .bad :: .bad :: .bad :: .bad :: .bad :: .bad :: .bad :: .bad :: .bad :: .bad :: .bad :: .bad :: .bad :: .bad :: .bad :: .bad :: .bad :: .bad :: .bad :: []), h)) : ACall X 17 [a0] h K := acall_intro (fn := Tryd.f17) (by kernel_rfl) (by kernel_rfl) (by kernel_rfl) H
/-! function 18: sindri/sindriref05.Take -/
noncomputable def c18_0 : Code := bodyOf Tryd.f18
noncomputable def c18_1 : Code := cl c18_0
theorem w18_1 (s0 s1 s2 s3 s4 s5 s6 s7 s8 s9 s10 s11 s12 s13 s14 s15 s16 s17 s18 s19 s20 s21 : AV) (n : Nat) (h : Heap) (Q : Qt) : awp X n c18_1 Q ((s0 :: s1 :: s2 :: s3 :: s4 :: s5 :: s6 :: s7 :: s8 :: s9 :: s10 :: s11 :: s12 :: s13 :: s14 :: s15 :: s16 :: s17 :: s18 :: s19 :: s20 :: s21 :: []), h) = (a_mov (.v (.int .u64 0)) h (.c (fun t2 h1 => a_mov (.v (.bool false)) h1 (.c (fun t3 h2 => Q .normal ((s0 :: s1 :: t2 :: t3 :: s4 :: s5 :: s6 :: s7 :: s8 :: s9 :: s10 :: s11 :: s12 :: s13 :: s14 :: s15 :: s16 :: s17 :: s18 :: s19 :: s20 :: s21 :: []), h2)) ())) ())) := by rw [awp_eq]; kernel_rfl
noncomputable def c18_2 : Code := cr c18_0
noncomputable def c18_3 : Code := cl c18_2
theorem w18_3 (s0 s1 s2 s3 s4 s5 s6 s7 s8 s9 s10 s11 s12 s13 s14 s15 s16 s17 s18 s19 s20 s21 : AV) (n : Nat) (h : Heap) (Q : Qt) : awp X n c18_3 Q ((s0 :: s1 :: s2 :: s3 :: s4 :: s5 :: s6 :: s7 :: s8 :: s9 :: s10 :: s11 :: s12 :: s13 :: s14 :: s15 :: s16 :: s17 :: s18 :: s19 :: s20 :: s21 :: []), h) = (a_mov s0 h (.c (fun t5 h1 => ACall X 31 [t5, (.v (.int .i64 4))] h1 (.c (fun t6 h2 => a_mov t6 h2 (.c (fun t4 h3 => Q .normal ((s0 :: s1 :: s2 :: s3 :: t4 :: t5 :: t6 :: s7 :: s8 :: s9 :: s10 :: s11 :: s12 :: s13 :: s14 :: s15 :: s16 :: s17 :: s18 :: s19 :: s20 :: s21 :: []), h3)) ())) ())) ())) := by rw [awp_eq]; kernel_rfl
noncomputable def c18_4 : Code := cr c18_2
noncomputable def c18_5 : Code := cl c18_4
noncomputable def c18_6 : Code := cl c18_5
theorem w18_6 (s0 s1 s2 s3 s4 s5 s6 s7 s8 s9 s10 s11 s12 s13 s14 s15 s16 s17 s18 s19 s20 s21 : AV) (n : Nat) (h : Heap) (Q : Qt) : awp X n c18_6 Q ((s0 :: s1 :: s2 :: s3 :: s4 :: s5 :: s6 :: s7 :: s8 :: s9 :: s10 :: s11 :: s12 :: s13 :: s14 :: s15 :: s16 :: s17 :: s18 :: s19 :: s20 :: s21 :: []), h) = (a_mov s4 h (.c (fun t7 h1 => a_bin .lss t7 (.v (.int .u64 4294967280)) h1 (.c (fun t8 h2 => Q .normal ((s0 :: s1 :: s2 :: s3 :: s4 :: s5 :: s6 :: t7 :: t8 :: s9 :: s10 :: s11 :: s12 :: s13 :: s14 :: s15 :: s16 :: s17 :: s18 :: s19 :: s20 :: s21 :: []), h2)) ())) ())) := by rw [awp_eq]; kernel_rfl
noncomputable def c18_7 : Code := cr c18_5
noncomputable def c18_8 : Code := cl c18_7
noncomputable def c18_9 : Code := cl c18_8
theorem w18_9 (s0 s1 s2 s3 s4 s5 s6 s7 s8 s9 s10 s11 s12 s13 s14 s15 s16 s17 s18 s19 s20 s21 : AV) (n : Nat) (h : Heap) (Q : Qt) : awp X n c18_9 Q ((s0 :: s1 :: s2 :: s3 :: s4 :: s5 :: s6 :: s7 :: s8 :: s9 :: s10 :: s11 :: s12 :: s13 :: s14 :: s15 :: s16 :: s17 :: s18 :: s19 :: s20 :: s21 :: []), h) = (a_mov s4 h (.c (fun t9 h1 => a_mov t9 h1 (.c (fun t2 h2 => a_mov (.v (.bool false)) h2 (.c (fun t3 h3 => Q .normal ((s0 :: s1 :: t2 :: t3 :: s4 :: s5 :: s6 :: s7 :: s8 :: t9 :: s10 :: s11 :: s12 :: s13 :: s14 :: s15 :: s16 :: s17 :: s18 :: s19 :: s20 :: s21 :: []), h3)) ())) ())) ())) := by rw [awp_eq]; kernel_rfl
noncomputable def c18_10 : Code := cr c18_8
theorem w18_10 (n : Nat) (Q : Qt) (st : St) : awp X n c18_10 Q st = Q .ret st := by rw [awp_eq]; kernel_rfl
theorem w18_8 (n : Nat) (Q : Qt) (st : St) : awp X n c18_8 Q st = awp X n c18_9 (thenQ (awp X n c18_10 Q) Q) st := by rw [awp_eq]; kernel_rfl
noncomputable def c18_11 : Code := cr c18_7
theorem w18_11 (n : Nat) (Q : Qt) (st : St) : awp X n c18_11 Q st = Q .normal st := by rw [awp_eq]; kernel_rfl
theorem w18_7 (s0 s1 s2 s3 s4 s5 s6 s7 s8 s9 s10 s11 s12 s13 s14 s15 s16 s17 s18 s19 s20 s21 : AV) (n : Nat) (h : Heap) (Q : Qt) : awp X n c18_7 Q ((s0 :: s1 :: s2 :: s3 :: s4 :: s5 :: s6 :: s7 :: s8 :: s9 :: s10 :: s11 :: s12 :: s13 :: s14 :: s15 :: s16 :: s17 :: s18 :: s19 :: s20 :: s21 :: []), h) = a_cond s8 (awp X n c18_8 Q ((s0 :: s1 :: s2 :: s3 :: s4 :: s5 :: s6 :: s7 :: s8 :: s9 :: s10 :: s11 :: s12 :: s13 :: s14 :: s15 :: s16 :: s17 :: s18 :: s19 :: s20 :: s21 :: []), h)) (awp X n c18_11 Q ((s0 :: s1 :: s2 :: s3 :: s4 :: s5 :: s6 :: s7 :: s8 :: s9 :: s10 :: s11 :: s12 :: s13 :: s14 :: s15 :: s16 :: s17 :: s18 :: s19 :: s20 :: s21 :: []), h)) := by rw [awp_eq]; kernel_rfl
theorem w18_5 (n : Nat) (Q : Qt) (st : St) : awp X n c18_5 Q st = awp X n c18_6 (thenQ (awp X n c18_7 Q) Q) st := by rw [awp_eq]; kernel_rfl
noncomputable def c18_12 : Code := cr c18_4
noncomputable def c18_13 : Code := cl c18_12
noncomputable def c18_14 : Code := cl c18_13
theorem w18_14 (s0 s1 s2 s3 s4 s5 s6 s7 s8 s9 s10 s11 s12 s13 s14 s15 s16 s17 s18 s19 s20 s21 : AV) (n : Nat) (h : Heap) (Q : Qt) : awp X n c18_14 Q ((s0 :: s1 :: s2 :: s3 :: s4 :: s5 :: s6 :: s7 :: s8 :: s9 :: s10 :: s11 :: s12 :: s13 :: s14 :: s15 :: s16 :: s17 :: s18 :: s19 :: s20 :: s21 :: []), h) = (a_mov s4 h (.c (fun t10 h1 => a_bin .neq t10 (.v (.int .u64 4294967295)) h1 (.c (fun t11 h2 => Q .normal ((s0 :: s1 :: s2 :: s3 :: s4 :: s5 :: s6 :: s7 :: s8 :: s9 :: t10 :: t11 :: s12 :: s13 :: s14 :: s15 :: s16 :: s17 :: s18 :: s19 :: s20 :: s21 :: []), h2)) ())) ())) := by rw [awp_eq]; kernel_rfl
noncomputable def c18_15 : Code := cr c18_13
noncomputable def c18_16 : Code := cl c18_15
noncomputable def c18_17 : Code := cl c18_16
theorem w18_17 (s0 s1 s2 s3 s4 s5 s6 s7 s8 s9 s10 s11 s12 s13 s14 s15 s16 s17 s18 s19 s20 s21 : AV) (n : Nat) (h : Heap) (Q : Qt) : awp X n c18_17 Q ((s0 :: s1 :: s2 :: s3 :: s4 :: s5 :: s6 :: s7 :: s8 :: s9 :: s10 :: s11 :: s12 :: s13 :: s14 :: s15 :: s16 :: s17 :: s18 :: s19 :: s20 :: s21 :: []), h) = (a_mov s0 h (.c (fun t12 h1 => ACall X 32 [t12, (.v (.int .i64 13))] h1 (.c (fun t13 h2 => Q .normal ((s0 :: s1 :: s2 :: s3 :: s4 :: s5 :: s6 :: s7 :: s8 :: s9 :: s10 :: s11 :: t12 :: t13 :: s14 :: s15 :: s16 :: s17 :: s18 :: s19 :: s20 :: s21 :: []), h2)) ())) ())) := by rw [awp_eq]; kernel_rfl
noncomputable def c18_18 : Code := cr c18_16
noncomputable def c18_19 : Code := cl c18_18
theorem w18_19 (s0 s1 s2 s3 s4 s5 s6 s7 s8 s9 s10 s11 s12 s13 s14 s15 s16 s17 s18 s19 s20 s21 : AV) (n : Nat) (h : Heap) (Q : Qt) : awp X n c18_19 Q ((s0 :: s1 :: s2 :: s3 :: s4 :: s5 :: s6 :: s7 :: s8 :: s9 :: s10 :: s11 :: s12 :: s13 :: s14 :: s15 :: s16 :: s17 :: s18 :: s19 :: s20 :: s21 :: []), h) = (a_mov (.v (.int .u64 0)) h (.c (fun t2 h1 => a_mov (.v (.bool false)) h1 (.c (fun t3 h2 => Q .normal ((s0 :: s1 :: t2 :: t3 :: s4 :: s5 :: s6 :: s7 :: s8 :: s9 :: s10 :: s11 :: s12 :: s13 :: s14 :: s15 :: s16 :: s17 :: s18 :: s19 :: s20 :: s21 :: []), h2)) ())) ())) := by rw [awp_eq]; kernel_rfl
noncomputable def c18_20 : Code := cr c18_18
theorem w18_20 (n : Nat) (Q : Qt) (st : St) : awp X n c18_20 Q st = Q .ret st := by rw [awp_eq]; kernel_rfl
theorem w18_18 (n : Nat) (Q : Qt) (st : St) : awp X n c18_18 Q st = awp X n c18_19 (thenQ (awp X n c18_20 Q) Q) st := by rw [awp_eq]; kernel_rfl
theorem w18_16 (n : Nat) (Q : Qt) (st : St) : awp X n c18_16 Q st = awp X n c18_17 (thenQ (awp X n c18_18 Q) Q) st := by rw [awp_eq]; kernel_rfl
noncomputable def c18_21 : Code := cr c18_15
theorem w18_21 (n : Nat) (Q : Qt) (st : St) : awp X n c18_21 Q st = Q .normal st := by rw [awp_eq]; kernel_rfl
theorem w18_15 (s0 s1 s2 s3 s4 s5 s6 s7 s8 s9 s10 s11 s12 s13 s14 s15 s16 s17 s18 s19 s20 s21 : AV) (n : Nat) (h : Heap) (Q : Qt) : awp X n c18_15 Q ((s0 :: s1 :: s2 :: s3 :: s4 :: s5 :: s6 :: s7 :: s8 :: s9 :: s10 :: s11 :: s12 :: s13 :: s14 :: s15 :: s16 :: s17 :: s18 :: s19 :: s20 :: s21 :: []), h) = a_cond s11 (awp X n c18_16 Q ((s0 :: s1 :: s2 :: s3 :: s4 :: s5 :: s6 :: s7 :: s8 :: s9 :: s10 :: s11 :: s12 :: s13 :: s14 :: s15 :: s16 :: s17 :: s18 :: s19 :: s20 :: s21 :: []), h)) (awp X n c18_21 Q ((s0 :: s1 :: s2 :: s3 :: s4 :: s5 :: s6 :: s7 :: s8 :: s9 :: s10 :: s11 :: s12 :: s13 :: s14 :: s15 :: s16 :: s17 :: s18 :: s19 :: s20 :: s21 :: []), h)) := by rw [awp_eq]; kernel_rfl
theorem w18_13 (n : Nat) (Q : Qt) (st : St) : awp X n c18_13 Q st = awp X n c18_14 (thenQ (awp X n c18_15 Q) Q) st := by rw [awp_eq]; kernel_rfl
noncomputable def c18_22 : Code := cr c18_12
noncomputable def c18_23 : Code := cl c18_22
theorem w18_23 (s0 s1 s2 s3 s4 s5 s6 s7 s8 s9 s10 s11 s12 s13 s14 s15 s16 s17 s18 s19 s20 s21 : AV) (n : Nat) (h : Heap) (Q : Qt) : awp X n c18_23 Q ((s0 :: s1 :: s2 :: s3 :: s4 :: s5 :: s6 :: s7 :: s8 :: s9 :: s10 :: s11 :: s12 :: s13 :: s14 :: s15 :: s16 :: s17 :: s18 :: s19 :: s20 :: s21 :: []), h) = (a_mov s0 h (.c (fun t14 h1 => ACall X 31 [t14, (.v (.int .i64 8))] h1 (.c (fun t15 h2 => a_mov t15 h2 (.c (fun t4 h3 => Q .normal ((s0 :: s1 :: s2 :: s3 :: t4 :: s5 :: s6 :: s7 :: s8 :: s9 :: s10 :: s11 :: s12 :: s13 :: t14 :: t15 :: s16 :: s17 :: s18 :: s19 :: s20 :: s21 :: []), h3)) ())) ())) ())) := by rw [awp_eq]; kernel_rfl
noncomputable def c18_24 : Code := cr c18_22
noncomputable def c18_25 : Code := cl c18_24
theorem w18_25 (s0 s1 s2 s3 s4 s5 s6 s7 s8 s9 s10 s11 s12 s13 s14 s15 s16 s17 s18 s19 s20 s21 : AV) (n : Nat) (h : Heap) (Q : Qt) : awp X n c18_25 Q ((s0 :: s1 :: s2 :: s3 :: s4 :: s5 :: s6 :: s7 :: s8 :: s9 :: s10 :: s11 :: s12 :: s13 :: s14 :: s15 :: s16 :: s17 :: s18 :: s19 :: s20 :: s21 :: []), h) = (a_mov s4 h (.c (fun t16 h1 => a_mov s0 h1 (.c (fun t17 h2 => a_nilc t17 h2 (.c (fun t18 h3 => a_fa 2 t18 h3 (.c (fun t19 h4 => a_load 1 false t19 h4 (.c (fun t20 h5 => a_bin .eql t20 (.v (.int .i64 0)) h5 (.c (fun t21 h6 => a_mov t16 h6 (.c (fun t2 h7 => a_mov t21 h7 (.c (fun t3 h8 => Q .normal ((s0 :: s1 :: t2 :: t3 :: s4 :: s5 :: s6 :: s7 :: s8 :: s9 :: s10 :: s11 :: s12 :: s13 :: s14 :: s15 :: t16 :: t17 :: t18 :: t19 :: t20 :: t21 :: []), h8)) ())) ())) ())) ())) ())) ())) ())) ())) := by rw [awp_eq]; kernel_rfl
noncomputable def c18_26 : Code := cr c18_24
theorem w18_26 (n : Nat) (Q : Qt) (st : St) : awp X n c18_26 Q st = Q .ret st := by rw [awp_eq]; kernel_rfl
theorem w18_24 (n : Nat) (Q : Qt) (st : St) : awp X n c18_24 Q st = awp X n c18_25 (thenQ (awp X n c18_26 Q) Q) st := by rw [awp_eq]; kernel_rfl
theorem w18_22 (n : Nat) (Q : Qt) (st : St) : awp X n c18_22 Q st = awp X n c18_23 (thenQ (awp X n c18_24 Q) Q) st := by rw [awp_eq]; kernel_rfl
theorem w18_12 (n : Nat) (Q : Qt) (st : St) : awp X n c18_12 Q st = awp X n c18_13 (thenQ (awp X n c18_22 Q) Q) st := by rw [awp_eq]; kernel_rfl
theorem w18_4 (n : Nat) (Q : Qt) (st : St) : awp X n c18_4 Q st = awp X n c18_5 (thenQ (awp X n c18_12 Q) Q) st := by rw [awp_eq]; kernel_rfl
theorem w18_2 (n : Nat) (Q : Qt) (st : St) : awp X n c18_2 Q st = awp X n c18_3 (thenQ (awp X n c18_4 Q) Q) st := by rw [awp_eq]; kernel_rfl
theorem w18_0 (n : Nat) (Q : Qt) (st : St) : awp X n c18_0 Q st = awp X n c18_1 (thenQ (awp X n c18_2 Q) Q) st := by rw [awp_eq]; kernel_rfl
theorem q18_ret (s0 s1 s2 s3 s4 s5 s6 s7 s8 s9 s10 s11 s12 s13 s14 s15 s16 s17 s18 s19 s20 s21 : AV) (h : Heap) (K : Kt) : retQ X Tryd.f18 K .ret ((s0 :: s1 :: s2 :: s3 :: s4 :: s5 :: s6 :: s7 :: s8 :: s9 :: s10 :: s11 :: s12 :: s13 :: s14 :: s15 :: s16 :: s17 :: s18 :: s19 :: s20 :: s21 :: []), h) = (K.K (.t [s2, s3]) h) := by kernel_rfl
theorem q18_normal (s0 s1 s2 s3 s4 s5 s6 s7 s8 s9 s10 s11 s12 s13 s14 s15 s16 s17 s18 s19 s20 s21 : AV) (h : Heap) (K : Kt) : retQ X Tryd.f18 K .normal ((s0 :: s1 :: s2 :: s3 :: s4 :: s5 :: s6 :: s7 :: s8 :: s9 :: s10 :: s11 :: s12 :: s13 :: s14 :: s15 :: s16 :: s17 :: s18 :: s19 :: s20 :: s21 :: []), h) = (K.K (.t [s2, s3]) h) := by kernel_rfl
theorem i18 (a0 : AV) (h : Heap) (K : Kt) (H : awp X h.length c18_0 (retQ X Tryd.f18 K) ((a0 :: .bad :: .bad :: .bad :: .bad :: .bad :: .bad :: .bad :: .bad :: .bad :: .bad :: .bad :: .bad :: .bad :: .bad :: .bad :: .bad :: .bad :: .bad :: .bad :: .bad :: .bad :: []), h)) : ACall X 18 [a0] h K := acall_intro (fn := Tryd.f18) (by kernel_rfl) (by kernel_rfl) (by kernel_rfl) H
/-! function 21: sindri/sindriref05.Body -/
noncomputable def c21_0 : Code := bodyOf Tryd.f21
noncomputable def c21_1 : Code := cl c21_0
theorem w21_1 (s0 s1 s2 s3 s4 s5 s6 s7 s8 s9 s10 s11 s12 s13 s14 s15 s16 s17 s18 s19 s20 s21 : AV) (n : Nat) (h : Heap) (Q : Qt) : awp X n c21_1 Q ((s0 :: s1 :: s2 :: s3 :: s4 :: s5 :: s6 :: s7 :: s8 :: s9 :: s10 :: s11 :: s12 :: s13 :: s14 :: s15 :: s16 :: s17 :: s18 :: s19 :: s20 :: s21 :: []), h) = (a_mov (.v (.pointer none)) h (.c (fun t2 h1 => a_mov (.v (.bool false)) h1 (.c (fun t3 h2 => Q .normal ((s0 :: s1 :: t2 :: t3 :: s4 :: s5 :: s6 :: s7 :: s8 :: s9 :: s10 :: s11 :: s12 :: s13 :: s14 :: s15 :: s16 :: s17 :: s18 :: s19 :: s20 :: s21 :: []), h2)) ())) ())) := by rw [awp_eq]; kernel_rfl
noncomputable def c21_2 : Code := cr c21_0
noncomputable def c21_3 : Code := cl c21_2
theorem w21_3 (s0 s1 s2 s3 s4 s5 s6 s7 s8 s9 s10 s11 s12 s13 s14 s15 s16 s17 s18 s19 s20 s21 : AV) (n : Nat) (h : Heap) (Q : Qt) : awp X n c21_3 Q ((s0 :: s1 :: s2 :: s3 :: s4 :: s5 :: s6 :: s7 :: s8 :: s9 :: s10 :: s11 :: s12 :: s13 :: s14 :: s15 :: s16 :: s17 :: s18 :: s19 :: s20 :: s21 :: []), h) = (a_mov s0 h (.c (fun t8 h1 => ACall X 18 [t8] h1 (.c (fun t9 h2 => a_mov t9 h2 (.c (fun t7 h3 => a_ext 0 t7 h3 (.c (fun t10 h4 => a_ext 1 t7 h4 (.c (fun t11 h5 => a_mov t10 h5 (.c (fun t4 h6 => a_mov t11 h6 (.c (fun t5 h7 => Q .normal ((s0 :: s1 :: s2 :: s3 :: t4 :: t5 :: s6 :: t7 :: t8 :: t9 :: t10 :: t11 :: s12 :: s13 :: s14 :: s15 :: s16 :: s17 :: s18 :: s19 :: s20 :: s21 :: []), h7)) ())) ())) ())) ())) ())) ())) ())) := by rw [awp_eq]; kernel_rfl
noncomputable def c21_4 : Code := cr c21_2
noncomputable def c21_5 : Code := cl c21_4
theorem w21_5 (s0 s1 s2 s3 s4 s5 s6 s7 s8 s9 s10 s11 s12 s13 s14 s15 s16 s17 s18 s19 s20 s21 : AV) (n : Nat) (h : Heap) (Q : Qt) : awp X n c21_5 Q ((s0 :: s1 :: s2 :: s3 :: s4 :: s5 :: s6 :: s7 :: s8 :: s9 :: s10 :: s11 :: s12 :: s13 :: s14 :: s15 :: s16 :: s17 :: s18 :: s19 :: s20 :: s21 :: []), h) = (a_mov s0 h (.c (fun t12 h1 => a_mov s4 h1 (.c (fun t13 h2 => ACall X 33 [t12, t13] h2 (.c (fun t14 h3 => a_mov t14 h3 (.c (fun t6 h4 => Q .normal ((s0 :: s1 :: s2 :: s3 :: s4 :: s5 :: t6 :: s7 :: s8 :: s9 :: s10 :: s11 :: t12 :: t13 :: t14 :: s15 :: s16 :: s17 :: s18 :: s19 :: s20 :: s21 :: []), h4)) ())) ())) ())) ())) := by rw [awp_eq]; kernel_rfl
noncomputable def c21_6 : Code := cr c21_4
noncomputable def c21_7 : Code := cl c21_6
noncomputable def c21_8 : Code := cl c21_7
theorem w21_8 (s0 s1 s2 s3 s4 s5 s6 s7 s8 s9 s10 s11 s12 s13 s14 s15 s16 s17 s18 s19 s20 s21 : AV) (n : Nat) (h : Heap) (Q : Qt) : awp X n c21_8 Q ((s0 :: s1 :: s2 :: s3 :: s4 :: s5 :: s6 :: s7 :: s8 :: s9 :: s10 :: s11 :: s12 :: s13 :: s14 :: s15 :: s16 :: s17 :: s18 :: s19 :: s20 :: s21 :: []), h) = (a_mov s6 h (.c (fun t15 h1 => a_nilc t15 h1 (.c (fun t16 h2 => a_fa 2 t16 h2 (.c (fun t17 h3 => a_load 1 false t17 h3 (.c (fun t18 h4 => a_bin .neq t18 (.v (.int .i64 0)) h4 (.c (fun t19 h5 => Q .normal ((s0 :: s1 :: s2 :: s3 :: s4 :: s5 :: s6 :: s7 :: s8 :: s9 :: s10 :: s11 :: s12 :: s13 :: s14 :: t15 :: t16 :: t17 :: t18 :: t19 :: s20 :: s21 :: []), h5)) ())) ())) ())) ())) ())) := by rw [awp_eq]; kernel_rfl
noncomputable def c21_9 : Code := cr c21_7
noncomputable def c21_10 : Code := cl c21_9
theorem w21_10 (s0 s1 s2 s3 s4 s5 s6 s7 s8 s9 s10 s11 s12 s13 s14 s15 s16 s17 s18 s19 s20 s21 : AV) (n : Nat) (h : Heap) (Q : Qt) : awp X n c21_10 Q ((s0 :: s1 :: s2 :: s3 :: s4 :: s5 :: s6 :: s7 :: s8 :: s9 :: s10 :: s11 :: s12 :: s13 :: s14 :: s15 :: s16 :: s17 :: s18 :: s19 :: s20 :: s21 :: []), h) = (a_mov (.v (.bool false)) h (.c (fun t5 h1 => Q .normal ((s0 :: s1 :: s2 :: s3 :: s4 :: t5 :: s6 :: s7 :: s8 :: s9 :: s10 :: s11 :: s12 :: s13 :: s14 :: s15 :: s16 :: s17 :: s18 :: s19 :: s20 :: s21 :: []), h1)) ())) := by rw [awp_eq]; kernel_rfl
noncomputable def c21_11 : Code := cr c21_9
theorem w21_11 (n : Nat) (Q : Qt) (st : St) : awp X n c21_11 Q st = Q .normal st := by rw [awp_eq]; kernel_rfl
theorem w21_9 (s0 s1 s2 s3 s4 s5 s6 s7 s8 s9 s10 s11 s12 s13 s14 s15 s16 s17 s18 s19 s20 s21 : AV) (n : Nat) (h : Heap) (Q : Qt) : awp X n c21_9 Q ((s0 :: s1 :: s2 :: s3 :: s4 :: s5 :: s6 :: s7 :: s8 :: s9 :: s10 :: s11 :: s12 :: s13 :: s14 :: s15 :: s16 :: s17 :: s18 :: s19 :: s20 :: s21 :: []), h) = a_cond s19 (awp X n c21_10 Q ((s0 :: s1 :: s2 :: s3 :: s4 :: s5 :: s6 :: s7 :: s8 :: s9 :: s10 :: s11 :: s12 :: s13 :: s14 :: s15 :: s16 :: s17 :: s18 :: s19 :: s20 :: s21 :: []), h)) (awp X n c21_11 Q ((s0 :: s1 :: s2 :: s3 :: s4 :: s5 :: s6 :: s7 :: s8 :: s9 :: s10 :: s11 :: s12 :: s13 :: s14 :: s15 :: s16 :: s17 :: s18 :: s19 :: s20 :: s21 :: []), h)) := by rw [awp_eq]; kernel_rfl
theorem w21_7 (n : Nat) (Q : Qt) (st : St) : awp X n c21_7 Q st = awp X n c21_8 (thenQ (awp X n c21_9 Q) Q) st := by rw [awp_eq]; kernel_rfl
noncomputable def c21_12 : Code := cr c21_6
noncomputable def c21_13 : Code := cl c21_12
theorem w21_13 (s0 s1 s2 s3 s4 s5 s6 s7 s8 s9 s10 s11 s12 s13 s14 s15 s16 s17 s18 s19 s20 s21 : AV) (n : Nat) (h : Heap) (Q : Qt) : awp X n c21_13 Q ((s0 :: s1 :: s2 :: s3 :: s4 :: s5 :: s6 :: s7 :: s8 :: s9 :: s10 :: s11 :: s12 :: s13 :: s14 :: s15 :: s16 :: s17 :: s18 :: s19 :: s20 :: s21 :: []), h) = (a_mov s6 h (.c (fun t20 h1 => a_mov s5 h1 (.c (fun t21 h2 => a_mov t20 h2 (.c (fun t2 h3 => a_mov t21 h3 (.c (fun t3 h4 => Q .normal ((s0 :: s1 :: t2 :: t3 :: s4 :: s5 :: s6 :: s7 :: s8 :: s9 :: s10 :: s11 :: s12 :: s13 :: s14 :: s15 :: s16 :: s17 :: s18 :: s19 :: t20 :: t21 :: []), h4)) ())) ())) ())) ())) := by rw [awp_eq]; kernel_rfl
noncomputable def c21_14 : Code := cr c21_12
theorem w21_14 (n : Nat) (Q : Qt) (st : St) : awp X n c21_14 Q st = Q .ret st := by rw [awp_eq]; kernel_rfl
theorem w21_12 (n : Nat) (Q : Qt) (st : St) : awp X n c21_12 Q st = awp X n c21_13 (thenQ (awp X n c21_14 Q) Q) st := by rw [awp_eq]; kernel_rfl
theorem w21_6 (n : Nat) (Q : Qt) (st : St) : awp X n c21_6 Q st = awp X n c21_7 (thenQ (awp X n c21_12 Q) Q) st := by rw [awp_eq]; kernel_rfl
theorem w21_4 (n : Nat) (Q : Qt) (st : St) : awp X n c21_4 Q st = awp X n c21_5 (thenQ (awp X n c21_6 Q) Q) st := by rw [awp_eq]; kernel_rfl
theorem w21_2 (n : Nat) (Q : Qt) (st : St) : awp X n c21_2 Q st = awp X n c21_3 (thenQ (awp X n c21_4 Q) Q) st := by rw [awp_eq]; kernel_rfl
theorem w21_0 (n : Nat) (Q : Qt) (st : St) : awp X n c21_0 Q st = awp X n c21_1 (thenQ (awp X n c21_2 Q) Q) st := by rw [awp_eq]; kernel_rfl
theorem q21_ret (s0 s1 s2 s3 s4 s5 s6 s7 s8 s9 s10 s11 s12 s13 s14 s15 s16 s17 s18 s19 s20 s21 : AV) (h : Heap) (K : Kt) : retQ X Tryd.f21 K .ret ((s0 :: s1 :: s2 :: s3 :: s4 :: s5 :: s6 :: s7 :: s8 :: s9 :: s10 :: s11 :: s12 :: s13 :: s14 :: s15 :: s16 :: s17 :: s18 :: s19 :: s20 :: s21 :: []), h) = (K.K (.t [s2, s3]) h) := by kernel_rfl
theorem q21_normal (s0 s1 s2 s3 s4 s5 s6 s7 s8 s9 s10 s11 s12 s13 s14 s15 s16 s17 s18 s19 s20 s21 : AV) (h : Heap) (K : Kt) : retQ X Tryd.f21 K .normal ((s0 :: s1 :: s2 :: s3 :: s4 :: s5 :: s6 :: s7 :: s8 :: s9 :: s10 :: s11 :: s12 :: s13 :: s14 :: s15 :: s16 :: s17 :: s18 :: s19 :: s20 :: s21 :: []), h) = (K.K (.t [s2, s3]) h) := by kernel_rfl
theorem i21 (a0 : AV) (h : Heap) (K : Kt) (H : awp X h.length c21_0 (retQ X Tryd.f21 K) ((a0 :: .bad :: .bad :: .bad :: .bad :: .bad :: .bad :: .bad :: .bad :: .bad :: .bad :: .bad :: .bad :: .bad :: .bad :: .bad :: .bad :: .bad :: .bad :: .bad :: .bad :: .bad :: []), h)) : ACall X 21 [a0] h K := acall_intro (fn := Tryd.f21) (by kernel_rfl) (by kernel_rfl) (by kernel_rfl) H
end Go.Proofs.YtpnlhcoenpnhbaaDoor
