import Derived.Test.YtknhhbbgcjidmaaEnv
set_option linter.unusedVariables false
set_option maxRecDepth 100000
namespace Go.Proofs.Ytknhhbbgcjidmaa
open Go.Ab
/-! function 9: sindri/cursor.Put -/
noncomputable def c9_0 : Code := bodyOf Try.f9
noncomputable def c9_1 : Code := cl c9_0
theorem w9_1 (s0 s1 s2 s3 s4 s5 s6 s7 s8 s9 s10 s11 s12 s13 s14 s15 s16 s17 s18 s19 s20 s21 s22 s23 : AV) (n : Nat) (h : Heap) (Q : Qt) : awp X n c9_1 Q ((s0 :: s1 :: s2 :: s3 :: s4 :: s5 :: s6 :: s7 :: s8 :: s9 :: s10 :: s11 :: s12 :: s13 :: s14 :: s15 :: s16 :: s17 :: s18 :: s19 :: s20 :: s21 :: s22 :: s23 :: []), h) = (a_mov (.v (.slice none 0 0)) h (.c (fun t6 h1 => Q .normal ((s0 :: s1 :: s2 :: s3 :: s4 :: s5 :: t6 :: s7 :: s8 :: s9 :: s10 :: s11 :: s12 :: s13 :: s14 :: s15 :: s16 :: s17 :: s18 :: s19 :: s20 :: s21 :: s22 :: s23 :: []), h1)) ())) := by rw [awp_eq]; kernel_rfl
noncomputable def c9_2 : Code := cr c9_0
noncomputable def c9_3 : Code := cl c9_2
noncomputable def c9_4 : Code := cl c9_3
theorem w9_4 (s0 s1 s2 s3 s4 s5 s6 s7 s8 s9 s10 s11 s12 s13 s14 s15 s16 s17 s18 s19 s20 s21 s22 s23 : AV) (n : Nat) (h : Heap) (Q : Qt) : awp X n c9_4 Q ((s0 :: s1 :: s2 :: s3 :: s4 :: s5 :: s6 :: s7 :: s8 :: s9 :: s10 :: s11 :: s12 :: s13 :: s14 :: s15 :: s16 :: s17 :: s18 :: s19 :: s20 :: s21 :: s22 :: s23 :: []), h) = (a_mov s2 h (.c (fun t8 h1 => ACall X 32 [t8] h1 (.c (fun t9 h2 => a_mov (.v (.int .i64 0)) h2 (.c (fun t10 h3 => Q .normal ((s0 :: s1 :: s2 :: s3 :: s4 :: s5 :: s6 :: s7 :: t8 :: t9 :: t10 :: s11 :: s12 :: s13 :: s14 :: s15 :: s16 :: s17 :: s18 :: s19 :: s20 :: s21 :: s22 :: s23 :: []), h3)) ())) ())) ())) := by rw [awp_eq]; kernel_rfl
noncomputable def c9_5 : Code := cr c9_3
noncomputable def c9_6 : Code := cl c9_5
noncomputable def c9_7 : Code := cl c9_6
noncomputable def c9_8 : Code := cl c9_7
theorem w9_8 (s0 s1 s2 s3 s4 s5 s6 s7 s8 s9 s10 s11 s12 s13 s14 s15 s16 s17 s18 s19 s20 s21 s22 s23 : AV) (n : Nat) (h : Heap) (Q : Qt) : awp X n c9_8 Q ((s0 :: s1 :: s2 :: s3 :: s4 :: s5 :: s6 :: s7 :: s8 :: s9 :: s10 :: s11 :: s12 :: s13 :: s14 :: s15 :: s16 :: s17 :: s18 :: s19 :: s20 :: s21 :: s22 :: s23 :: []), h) = (a_bin .lss s10 s9 h (.c (fun t11 h1 => Q .normal ((s0 :: s1 :: s2 :: s3 :: s4 :: s5 :: s6 :: s7 :: s8 :: s9 :: s10 :: t11 :: s12 :: s13 :: s14 :: s15 :: s16 :: s17 :: s18 :: s19 :: s20 :: s21 :: s22 :: s23 :: []), h1)) ())) := by rw [awp_eq]; kernel_rfl
noncomputable def c9_9 : Code := cr c9_7
noncomputable def c9_10 : Code := cl c9_9
noncomputable def c9_11 : Code := cl c9_10
theorem w9_11 (n : Nat) (Q : Qt) (st : St) : awp X n c9_11 Q st = Q .normal st := by rw [awp_eq]; kernel_rfl
noncomputable def c9_12 : Code := cr c9_10
theorem w9_12 (n : Nat) (Q : Qt) (st : St) : awp X n c9_12 Q st = Q (.exit 0) st := by rw [awp_eq]; kernel_rfl
theorem w9_10 (s0 s1 s2 s3 s4 s5 s6 s7 s8 s9 s10 s11 s12 s13 s14 s15 s16 s17 s18 s19 s20 s21 s22 s23 : AV) (n : Nat) (h : Heap) (Q : Qt) : awp X n c9_10 Q ((s0 :: s1 :: s2 :: s3 :: s4 :: s5 :: s6 :: s7 :: s8 :: s9 :: s10 :: s11 :: s12 :: s13 :: s14 :: s15 :: s16 :: s17 :: s18 :: s19 :: s20 :: s21 :: s22 :: s23 :: []), h) = a_cond s11 (awp X n c9_11 Q ((s0 :: s1 :: s2 :: s3 :: s4 :: s5 :: s6 :: s7 :: s8 :: s9 :: s10 :: s11 :: s12 :: s13 :: s14 :: s15 :: s16 :: s17 :: s18 :: s19 :: s20 :: s21 :: s22 :: s23 :: []), h)) (awp X n c9_12 Q ((s0 :: s1 :: s2 :: s3 :: s4 :: s5 :: s6 :: s7 :: s8 :: s9 :: s10 :: s11 :: s12 :: s13 :: s14 :: s15 :: s16 :: s17 :: s18 :: s19 :: s20 :: s21 :: s22 :: s23 :: []), h)) := by rw [awp_eq]; kernel_rfl
noncomputable def c9_13 : Code := cr c9_9
noncomputable def c9_14 : Code := cl c9_13
noncomputable def c9_15 : Code := cl c9_14
noncomputable def c9_16 : Code := cl c9_15
theorem w9_16 (s0 s1 s2 s3 s4 s5 s6 s7 s8 s9 s10 s11 s12 s13 s14 s15 s16 s17 s18 s19 s20 s21 s22 s23 : AV) (n : Nat) (h : Heap) (Q : Qt) : awp X n c9_16 Q ((s0 :: s1 :: s2 :: s3 :: s4 :: s5 :: s6 :: s7 :: s8 :: s9 :: s10 :: s11 :: s12 :: s13 :: s14 :: s15 :: s16 :: s17 :: s18 :: s19 :: s20 :: s21 :: s22 :: s23 :: []), h) = (a_mov s10 h (.c (fun t12 h1 => a_mov t12 h1 (.c (fun t7 h2 => Q .normal ((s0 :: s1 :: s2 :: s3 :: s4 :: s5 :: s6 :: t7 :: s8 :: s9 :: s10 :: s11 :: t12 :: s13 :: s14 :: s15 :: s16 :: s17 :: s18 :: s19 :: s20 :: s21 :: s22 :: s23 :: []), h2)) ())) ())) := by rw [awp_eq]; kernel_rfl
noncomputable def c9_17 : Code := cr c9_15
theorem w9_17 (s0 s1 s2 s3 s4 s5 s6 s7 s8 s9 s10 s11 s12 s13 s14 s15 s16 s17 s18 s19 s20 s21 s22 s23 : AV) (n : Nat) (h : Heap) (Q : Qt) : awp X n c9_17 Q ((s0 :: s1 :: s2 :: s3 :: s4 :: s5 :: s6 :: s7 :: s8 :: s9 :: s10 :: s11 :: s12 :: s13 :: s14 :: s15 :: s16 :: s17 :: s18 :: s19 :: s20 :: s21 :: s22 :: s23 :: []), h) = (a_mov s0 h (.c (fun t13 h1 => a_mov s1 h1 (.c (fun t14 h2 => a_mov s7 h2 (.c (fun t15 h3 => a_bin .mul (.v (.int .i64 8)) t15 h3 (.c (fun t16 h4 => a_cint .u64 t16 h4 (.c (fun t17 h5 => a_bin .shr t14 t17 h5 (.c (fun t18 h6 => a_cint .u8 t18 h6 (.c (fun t19 h7 => a_lit 1 1 [.v (.int .u8 0)] [(0, 1, t19)] h7 (.c (fun t20 h8 => a_app 1 1 t13 t20 h8 (.c (fun t21 h9 => a_mov t21 h9 (.c (fun t0 h10 => Q .normal ((t0 :: s1 :: s2 :: s3 :: s4 :: s5 :: s6 :: s7 :: s8 :: s9 :: s10 :: s11 :: s12 :: t13 :: t14 :: t15 :: t16 :: t17 :: t18 :: t19 :: t20 :: t21 :: s22 :: s23 :: []), h10)) ())) ())) ())) ())) ())) ())) ())) ())) ())) ())) := by rw [awp_eq]; kernel_rfl
theorem w9_15 (n : Nat) (Q : Qt) (st : St) : awp X n c9_15 Q st = awp X n c9_16 (thenQ (awp X n c9_17 Q) Q) st := by rw [awp_eq]; kernel_rfl
theorem w9_14 (n : Nat) (Q : Qt) (st : St) : awp X n c9_14 Q st = awp X n c9_15 (blockQ 1 Q) st := by rw [awp_eq]; kernel_rfl
noncomputable def c9_18 : Code := cr c9_13
theorem w9_18 (s0 s1 s2 s3 s4 s5 s6 s7 s8 s9 s10 s11 s12 s13 s14 s15 s16 s17 s18 s19 s20 s21 s22 s23 : AV) (n : Nat) (h : Heap) (Q : Qt) : awp X n c9_18 Q ((s0 :: s1 :: s2 :: s3 :: s4 :: s5 :: s6 :: s7 :: s8 :: s9 :: s10 :: s11 :: s12 :: s13 :: s14 :: s15 :: s16 :: s17 :: s18 :: s19 :: s20 :: s21 :: s22 :: s23 :: []), h) = (a_bin .add s10 (.v (.int .i64 1)) h (.c (fun t22 h1 => a_mov t22 h1 (.c (fun t10 h2 => Q .normal ((s0 :: s1 :: s2 :: s3 :: s4 :: s5 :: s6 :: s7 :: s8 :: s9 :: t10 :: s11 :: s12 :: s13 :: s14 :: s15 :: s16 :: s17 :: s18 :: s19 :: s20 :: s21 :: t22 :: s23 :: []), h2)) ())) ())) := by rw [awp_eq]; kernel_rfl
theorem w9_13 (n : Nat) (Q : Qt) (st : St) : awp X n c9_13 Q st = awp X n c9_14 (thenQ (awp X n c9_18 Q) Q) st := by rw [awp_eq]; kernel_rfl
theorem w9_9 (n : Nat) (Q : Qt) (st : St) : awp X n c9_9 Q st = awp X n c9_10 (thenQ (awp X n c9_13 Q) Q) st := by rw [awp_eq]; kernel_rfl
theorem w9_7 (n : Nat) (Q : Qt) (st : St) : awp X n c9_7 Q st = awp X n c9_8 (thenQ (awp X n c9_9 Q) Q) st := by rw [awp_eq]; kernel_rfl
theorem w9_6 (n : Nat) (Q : Qt) (st : St) : awp X n c9_6 Q st = ALoop X n c9_7 Q st := by rw [awp_eq]; kernel_rfl
theorem w9_5 (n : Nat) (Q : Qt) (st : St) : awp X n c9_5 Q st = awp X n c9_6 (blockQ 0 Q) st := by rw [awp_eq]; kernel_rfl
theorem w9_3 (n : Nat) (Q : Qt) (st : St) : awp X n c9_3 Q st = awp X n c9_4 (thenQ (awp X n c9_5 Q) Q) st := by rw [awp_eq]; kernel_rfl
noncomputable def c9_19 : Code := cr c9_2
noncomputable def c9_20 : Code := cl c9_19
theorem w9_20 (s0 s1 s2 s3 s4 s5 s6 s7 s8 s9 s10 s11 s12 s13 s14 s15 s16 s17 s18 s19 s20 s21 s22 s23 : AV) (n : Nat) (h : Heap) (Q : Qt) : awp X n c9_20 Q ((s0 :: s1 :: s2 :: s3 :: s4 :: s5 :: s6 :: s7 :: s8 :: s9 :: s10 :: s11 :: s12 :: s13 :: s14 :: s15 :: s16 :: s17 :: s18 :: s19 :: s20 :: s21 :: s22 :: s23 :: []), h) = (a_mov s0 h (.c (fun t23 h1 => a_mov t23 h1 (.c (fun t6 h2 => Q .normal ((s0 :: s1 :: s2 :: s3 :: s4 :: s5 :: t6 :: s7 :: s8 :: s9 :: s10 :: s11 :: s12 :: s13 :: s14 :: s15 :: s16 :: s17 :: s18 :: s19 :: s20 :: s21 :: s22 :: t23 :: []), h2)) ())) ())) := by rw [awp_eq]; kernel_rfl
noncomputable def c9_21 : Code := cr c9_19
theorem w9_21 (n : Nat) (Q : Qt) (st : St) : awp X n c9_21 Q st = Q .ret st := by rw [awp_eq]; kernel_rfl
theorem w9_19 (n : Nat) (Q : Qt) (st : St) : awp X n c9_19 Q st = awp X n c9_20 (thenQ (awp X n c9_21 Q) Q) st := by rw [awp_eq]; kernel_rfl
theorem w9_2 (n : Nat) (Q : Qt) (st : St) : awp X n c9_2 Q st = awp X n c9_3 (thenQ (awp X n c9_19 Q) Q) st := by rw [awp_eq]; kernel_rfl
theorem w9_0 (n : Nat) (Q : Qt) (st : St) : awp X n c9_0 Q st = awp X n c9_1 (thenQ (awp X n c9_2 Q) Q) st := by rw [awp_eq]; kernel_rfl
theorem q9_ret (s0 s1 s2 s3 s4 s5 s6 s7 s8 s9 s10 s11 s12 s13 s14 s15 s16 s17 s18 s19 s20 s21 s22 s23 : AV) (h : Heap) (K : Kt) : retQ X Try.f9 K .ret ((s0 :: s1 :: s2 :: s3 :: s4 :: s5 :: s6 :: s7 :: s8 :: s9 :: s10 :: s11 :: s12 :: s13 :: s14 :: s15 :: s16 :: s17 :: s18 :: s19 :: s20 :: s21 :: s22 :: s23 :: []), h) = (K.K s6 h) := by kernel_rfl
theorem q9_normal (s0 s1 s2 s3 s4 s5 s6 s7 s8 s9 s10 s11 s12 s13 s14 s15 s16 s17 s18 s19 s20 s21 s22 s23 : AV) (h : Heap) (K : Kt) : retQ X Try.f9 K .normal ((s0 :: s1 :: s2 :: s3 :: s4 :: s5 :: s6 :: s7 :: s8 :: s9 :: s10 :: s11 :: s12 :: s13 :: s14 :: s15 :: s16 :: s17 :: s18 :: s19 :: s20 :: s21 :: s22 :: s23 :: []), h) = (K.K s6 h) := by kernel_rfl
theorem i9 (a0 a1 a2 : AV) (h : Heap) (K : Kt) (H : awp X h.length c9_0 (retQ X Try.f9 K) ((a0 :: a1 :: a2 :: .bad :: .bad :: .bad :: .bad :: .bad :: .bad :: .bad :: .bad :: .bad :: .bad :: .bad :: .bad :: .bad :: .bad :: .bad :: .bad :: .bad :: .bad :: .bad :: .bad :: .bad :: []), h)) : ACall X 9 [a0, a1, a2] h K := acall_intro (fn := Try.f9) (by kernel_rfl) (by kernel_rfl) (by kernel_rfl) H
/-! function 10: sindri/sindriref01.Put -/
noncomputable def c10_0 : Code := bodyOf Try.f10
noncomputable def c10_1 : Code := cl c10_0
theorem w10_1 (s0 s1 s2 s3 s4 s5 s6 s7 s8 s9 s10 s11 s12 s13 s14 s15 s16 s17 s18 s19 s20 s21 : AV) (n : Nat) (h : Heap) (Q : Qt) : awp X n c10_1 Q ((s0 :: s1 :: s2 :: s3 :: s4 :: s5 :: s6 :: s7 :: s8 :: s9 :: s10 :: s11 :: s12 :: s13 :: s14 :: s15 :: s16 :: s17 :: s18 :: s19 :: s20 :: s21 :: []), h) = (a_mov (.v (.slice none 0 0)) h (.c (fun t4 h1 => Q .normal ((s0 :: s1 :: s2 :: s3 :: t4 :: s5 :: s6 :: s7 :: s8 :: s9 :: s10 :: s11 :: s12 :: s13 :: s14 :: s15 :: s16 :: s17 :: s18 :: s19 :: s20 :: s21 :: []), h1)) ())) := by rw [awp_eq]; kernel_rfl
noncomputable def c10_2 : Code := cr c10_0
noncomputable def c10_3 : Code := cl c10_2
theorem w10_3 (s0 s1 s2 s3 s4 s5 s6 s7 s8 s9 s10 s11 s12 s13 s14 s15 s16 s17 s18 s19 s20 s21 : AV) (n : Nat) (h : Heap) (Q : Qt) : awp X n c10_3 Q ((s0 :: s1 :: s2 :: s3 :: s4 :: s5 :: s6 :: s7 :: s8 :: s9 :: s10 :: s11 :: s12 :: s13 :: s14 :: s15 :: s16 :: s17 :: s18 :: s19 :: s20 :: s21 :: []), h) = (a_mov (.v (.slice none 0 0)) h (.c (fun t5 h1 => Q .normal ((s0 :: s1 :: s2 :: s3 :: s4 :: t5 :: s6 :: s7 :: s8 :: s9 :: s10 :: s11 :: s12 :: s13 :: s14 :: s15 :: s16 :: s17 :: s18 :: s19 :: s20 :: s21 :: []), h1)) ())) := by rw [awp_eq]; kernel_rfl
noncomputable def c10_4 : Code := cr c10_2
noncomputable def c10_5 : Code := cl c10_4
noncomputable def c10_6 : Code := cl c10_5
theorem w10_6 (s0 s1 s2 s3 s4 s5 s6 s7 s8 s9 s10 s11 s12 s13 s14 s15 s16 s17 s18 s19 s20 s21 : AV) (n : Nat) (h : Heap) (Q : Qt) : awp X n c10_6 Q ((s0 :: s1 :: s2 :: s3 :: s4 :: s5 :: s6 :: s7 :: s8 :: s9 :: s10 :: s11 :: s12 :: s13 :: s14 :: s15 :: s16 :: s17 :: s18 :: s19 :: s20 :: s21 :: []), h) = (a_mov (.v (.int .i64 0)) h (.c (fun t6 h1 => Q .normal ((s0 :: s1 :: s2 :: s3 :: s4 :: s5 :: t6 :: s7 :: s8 :: s9 :: s10 :: s11 :: s12 :: s13 :: s14 :: s15 :: s16 :: s17 :: s18 :: s19 :: s20 :: s21 :: []), h1)) ())) := by rw [awp_eq]; kernel_rfl
noncomputable def c10_7 : Code := cr c10_5
noncomputable def c10_8 : Code := cl c10_7
noncomputable def c10_9 : Code := cl c10_8
noncomputable def c10_10 : Code := cl c10_9
noncomputable def c10_11 : Code := cl c10_10
theorem w10_11 (s0 s1 s2 s3 s4 s5 s6 s7 s8 s9 s10 s11 s12 s13 s14 s15 s16 s17 s18 s19 s20 s21 : AV) (n : Nat) (h : Heap) (Q : Qt) : awp X n c10_11 Q ((s0 :: s1 :: s2 :: s3 :: s4 :: s5 :: s6 :: s7 :: s8 :: s9 :: s10 :: s11 :: s12 :: s13 :: s14 :: s15 :: s16 :: s17 :: s18 :: s19 :: s20 :: s21 :: []), h) = (a_mov s6 h (.c (fun t7 h1 => a_mov s1 h1 (.c (fun t8 h2 => ACall X 33 [t8] h2 (.c (fun t9 h3 => a_bin .lss t7 t9 h3 (.c (fun t10 h4 => Q .normal ((s0 :: s1 :: s2 :: s3 :: s4 :: s5 :: s6 :: t7 :: t8 :: t9 :: t10 :: s11 :: s12 :: s13 :: s14 :: s15 :: s16 :: s17 :: s18 :: s19 :: s20 :: s21 :: []), h4)) ())) ())) ())) ())) := by rw [awp_eq]; kernel_rfl
noncomputable def c10_12 : Code := cr c10_10
noncomputable def c10_13 : Code := cl c10_12
theorem w10_13 (n : Nat) (Q : Qt) (st : St) : awp X n c10_13 Q st = Q .normal st := by rw [awp_eq]; kernel_rfl
noncomputable def c10_14 : Code := cr c10_12
theorem w10_14 (n : Nat) (Q : Qt) (st : St) : awp X n c10_14 Q st = Q (.exit 0) st := by rw [awp_eq]; kernel_rfl
theorem w10_12 (s0 s1 s2 s3 s4 s5 s6 s7 s8 s9 s10 s11 s12 s13 s14 s15 s16 s17 s18 s19 s20 s21 : AV) (n : Nat) (h : Heap) (Q : Qt) : awp X n c10_12 Q ((s0 :: s1 :: s2 :: s3 :: s4 :: s5 :: s6 :: s7 :: s8 :: s9 :: s10 :: s11 :: s12 :: s13 :: s14 :: s15 :: s16 :: s17 :: s18 :: s19 :: s20 :: s21 :: []), h) = a_cond s10 (awp X n c10_13 Q ((s0 :: s1 :: s2 :: s3 :: s4 :: s5 :: s6 :: s7 :: s8 :: s9 :: s10 :: s11 :: s12 :: s13 :: s14 :: s15 :: s16 :: s17 :: s18 :: s19 :: s20 :: s21 :: []), h)) (awp X n c10_14 Q ((s0 :: s1 :: s2 :: s3 :: s4 :: s5 :: s6 :: s7 :: s8 :: s9 :: s10 :: s11 :: s12 :: s13 :: s14 :: s15 :: s16 :: s17 :: s18 :: s19 :: s20 :: s21 :: []), h)) := by rw [awp_eq]; kernel_rfl
theorem w10_10 (n : Nat) (Q : Qt) (st : St) : awp X n c10_10 Q st = awp X n c10_11 (thenQ (awp X n c10_12 Q) Q) st := by rw [awp_eq]; kernel_rfl
noncomputable def c10_15 : Code := cr c10_9
noncomputable def c10_16 : Code := cl c10_15
noncomputable def c10_17 : Code := cl c10_16
noncomputable def c10_18 : Code := cl c10_17
theorem w10_18 (s0 s1 s2 s3 s4 s5 s6 s7 s8 s9 s10 s11 s12 s13 s14 s15 s16 s17 s18 s19 s20 s21 : AV) (n : Nat) (h : Heap) (Q : Qt) : awp X n c10_18 Q ((s0 :: s1 :: s2 :: s3 :: s4 :: s5 :: s6 :: s7 :: s8 :: s9 :: s10 :: s11 :: s12 :: s13 :: s14 :: s15 :: s16 :: s17 :: s18 :: s19 :: s20 :: s21 :: []), h) = (a_mov s5 h (.c (fun t13 h1 => a_mov s0 h1 (.c (fun t14 h2 => a_bin .rem t14 (.v (.int .u64 256)) h2 (.c (fun t15 h3 => a_cint .u8 t15 h3 (.c (fun t16 h4 => a_lit 1 1 [.v (.int .u8 0)] [(0, 1, t16)] h4 (.c (fun t17 h5 => a_app 1 1 t13 t17 h5 (.c (fun t18 h6 => a_mov t18 h6 (.c (fun t5 h7 => Q .normal ((s0 :: s1 :: s2 :: s3 :: s4 :: t5 :: s6 :: s7 :: s8 :: s9 :: s10 :: s11 :: s12 :: t13 :: t14 :: t15 :: t16 :: t17 :: t18 :: s19 :: s20 :: s21 :: []), h7)) ())) ())) ())) ())) ())) ())) ())) := by rw [awp_eq]; kernel_rfl
noncomputable def c10_19 : Code := cr c10_17
theorem w10_19 (s0 s1 s2 s3 s4 s5 s6 s7 s8 s9 s10 s11 s12 s13 s14 s15 s16 s17 s18 s19 s20 s21 : AV) (n : Nat) (h : Heap) (Q : Qt) : awp X n c10_19 Q ((s0 :: s1 :: s2 :: s3 :: s4 :: s5 :: s6 :: s7 :: s8 :: s9 :: s10 :: s11 :: s12 :: s13 :: s14 :: s15 :: s16 :: s17 :: s18 :: s19 :: s20 :: s21 :: []), h) = (a_mov s0 h (.c (fun t19 h1 => a_bin .quo t19 (.v (.int .u64 256)) h1 (.c (fun t20 h2 => a_mov t20 h2 (.c (fun t0 h3 => Q .normal ((t0 :: s1 :: s2 :: s3 :: s4 :: s5 :: s6 :: s7 :: s8 :: s9 :: s10 :: s11 :: s12 :: s13 :: s14 :: s15 :: s16 :: s17 :: s18 :: t19 :: t20 :: s21 :: []), h3)) ())) ())) ())) := by rw [awp_eq]; kernel_rfl
theorem w10_17 (n : Nat) (Q : Qt) (st : St) : awp X n c10_17 Q st = awp X n c10_18 (thenQ (awp X n c10_19 Q) Q) st := by rw [awp_eq]; kernel_rfl
theorem w10_16 (n : Nat) (Q : Qt) (st : St) : awp X n c10_16 Q st = awp X n c10_17 (blockQ 1 Q) st := by rw [awp_eq]; kernel_rfl
noncomputable def c10_20 : Code := cr c10_15
theorem w10_20 (s0 s1 s2 s3 s4 s5 s6 s7 s8 s9 s10 s11 s12 s13 s14 s15 s16 s17 s18 s19 s20 s21 : AV) (n : Nat) (h : Heap) (Q : Qt) : awp X n c10_20 Q ((s0 :: s1 :: s2 :: s3 :: s4 :: s5 :: s6 :: s7 :: s8 :: s9 :: s10 :: s11 :: s12 :: s13 :: s14 :: s15 :: s16 :: s17 :: s18 :: s19 :: s20 :: s21 :: []), h) = (a_mov s6 h (.c (fun t11 h1 => a_bin .add t11 (.v (.int .i64 1)) h1 (.c (fun t12 h2 => a_mov t12 h2 (.c (fun t6 h3 => Q .normal ((s0 :: s1 :: s2 :: s3 :: s4 :: s5 :: t6 :: s7 :: s8 :: s9 :: s10 :: t11 :: t12 :: s13 :: s14 :: s15 :: s16 :: s17 :: s18 :: s19 :: s20 :: s21 :: []), h3)) ())) ())) ())) := by rw [awp_eq]; kernel_rfl
theorem w10_15 (n : Nat) (Q : Qt) (st : St) : awp X n c10_15 Q st = awp X n c10_16 (thenQ (awp X n c10_20 Q) Q) st := by rw [awp_eq]; kernel_rfl
theorem w10_9 (n : Nat) (Q : Qt) (st : St) : awp X n c10_9 Q st = awp X n c10_10 (thenQ (awp X n c10_15 Q) Q) st := by rw [awp_eq]; kernel_rfl
theorem w10_8 (n : Nat) (Q : Qt) (st : St) : awp X n c10_8 Q st = ALoop X n c10_9 Q st := by rw [awp_eq]; kernel_rfl
theorem w10_7 (n : Nat) (Q : Qt) (st : St) : awp X n c10_7 Q st = awp X n c10_8 (blockQ 0 Q) st := by rw [awp_eq]; kernel_rfl
theorem w10_5 (n : Nat) (Q : Qt) (st : St) : awp X n c10_5 Q st = awp X n c10_6 (thenQ (awp X n c10_7 Q) Q) st := by rw [awp_eq]; kernel_rfl
noncomputable def c10_21 : Code := cr c10_4
noncomputable def c10_22 : Code := cl c10_21
theorem w10_22 (s0 s1 s2 s3 s4 s5 s6 s7 s8 s9 s10 s11 s12 s13 s14 s15 s16 s17 s18 s19 s20 s21 : AV) (n : Nat) (h : Heap) (Q : Qt) : awp X n c10_22 Q ((s0 :: s1 :: s2 :: s3 :: s4 :: s5 :: s6 :: s7 :: s8 :: s9 :: s10 :: s11 :: s12 :: s13 :: s14 :: s15 :: s16 :: s17 :: s18 :: s19 :: s20 :: s21 :: []), h) = (a_mov s5 h (.c (fun t21 h1 => a_mov t21 h1 (.c (fun t4 h2 => Q .normal ((s0 :: s1 :: s2 :: s3 :: t4 :: s5 :: s6 :: s7 :: s8 :: s9 :: s10 :: s11 :: s12 :: s13 :: s14 :: s15 :: s16 :: s17 :: s18 :: s19 :: s20 :: t21 :: []), h2)) ())) ())) := by rw [awp_eq]; kernel_rfl
noncomputable def c10_23 : Code := cr c10_21
theorem w10_23 (n : Nat) (Q : Qt) (st : St) : awp X n c10_23 Q st = Q .ret st := by rw [awp_eq]; kernel_rfl
theorem w10_21 (n : Nat) (Q : Qt) (st : St) : awp X n c10_21 Q st = awp X n c10_22 (thenQ (awp X n c10_23 Q) Q) st := by rw [awp_eq]; kernel_rfl
theorem w10_4 (n : Nat) (Q : Qt) (st : St) : awp X n c10_4 Q st = awp X n c10_5 (thenQ (awp X n c10_21 Q) Q) st := by rw [awp_eq]; kernel_rfl
theorem w10_2 (n : Nat) (Q : Qt) (st : St) : awp X n c10_2 Q st = awp X n c10_3 (thenQ (awp X n c10_4 Q) Q) st := by rw [awp_eq]; kernel_rfl
theorem w10_0 (n : Nat) (Q : Qt) (st : St) : awp X n c10_0 Q st = awp X n c10_1 (thenQ (awp X n c10_2 Q) Q) st := by rw [awp_eq]; kernel_rfl
theorem q10_ret (s0 s1 s2 s3 s4 s5 s6 s7 s8 s9 s10 s11 s12 s13 s14 s15 s16 s17 s18 s19 s20 s21 : AV) (h : Heap) (K : Kt) : retQ X Try.f10 K .ret ((s0 :: s1 :: s2 :: s3 :: s4 :: s5 :: s6 :: s7 :: s8 :: s9 :: s10 :: s11 :: s12 :: s13 :: s14 :: s15 :: s16 :: s17 :: s18 :: s19 :: s20 :: s21 :: []), h) = (K.K s4 h) := by kernel_rfl
theorem q10_normal (s0 s1 s2 s3 s4 s5 s6 s7 s8 s9 s10 s11 s12 s13 s14 s15 s16 s17 s18 s19 s20 s21 : AV) (h : Heap) (K : Kt) : retQ X Try.f10 K .normal ((s0 :: s1 :: s2 :: s3 :: s4 :: s5 :: s6 :: s7 :: s8 :: s9 :: s10 :: s11 :: s12 :: s13 :: s14 :: s15 :: s16 :: s17 :: s18 :: s19 :: s20 :: s21 :: []), h) = (K.K s4 h) := by kernel_rfl
theorem i10 (a0 a1 : AV) (h : Heap) (K : Kt) (H : awp X h.length c10_0 (retQ X Try.f10 K) ((a0 :: a1 :: .bad :: .bad :: .bad :: .bad :: .bad :: .bad :: .bad :: .bad :: .bad :: .bad :: .bad :: .bad :: .bad :: .bad :: .bad :: .bad :: .bad :: .bad :: .bad :: .bad :: []), h)) : ACall X 10 [a0, a1] h K := acall_intro (fn := Try.f10) (by kernel_rfl) (by kernel_rfl) (by kernel_rfl) H
/-! function 11: sindri/sindrilaw01.works -/
noncomputable def c11_0 : Code := bodyOf Try.f11
noncomputable def c11_1 : Code := cl c11_0
theorem w11_1 (s0 s1 s2 s3 s4 s5 s6 s7 s8 s9 s10 s11 s12 s13 s14 s15 s16 s17 s18 s19 s20 s21 s22 s23 s24 s25 s26 : AV) (n : Nat) (h : Heap) (Q : Qt) : awp X n c11_1 Q ((s0 :: s1 :: s2 :: s3 :: s4 :: s5 :: s6 :: s7 :: s8 :: s9 :: s10 :: s11 :: s12 :: s13 :: s14 :: s15 :: s16 :: s17 :: s18 :: s19 :: s20 :: s21 :: s22 :: s23 :: s24 :: s25 :: s26 :: []), h) = (a_mov (.v (.bool false)) h (.c (fun t0 h1 => Q .normal ((t0 :: s1 :: s2 :: s3 :: s4 :: s5 :: s6 :: s7 :: s8 :: s9 :: s10 :: s11 :: s12 :: s13 :: s14 :: s15 :: s16 :: s17 :: s18 :: s19 :: s20 :: s21 :: s22 :: s23 :: s24 :: s25 :: s26 :: []), h1)) ())) := by rw [awp_eq]; kernel_rfl
noncomputable def c11_2 : Code := cr c11_0
noncomputable def c11_3 : Code := cl c11_2
theorem w11_3 (s0 s1 s2 s3 s4 s5 s6 s7 s8 s9 s10 s11 s12 s13 s14 s15 s16 s17 s18 s19 s20 s21 s22 s23 s24 s25 s26 : AV) (n : Nat) (h : Heap) (Q : Qt) : awp X n c11_3 Q ((s0 :: s1 :: s2 :: s3 :: s4 :: s5 :: s6 :: s7 :: s8 :: s9 :: s10 :: s11 :: s12 :: s13 :: s14 :: s15 :: s16 :: s17 :: s18 :: s19 :: s20 :: s21 :: s22 :: s23 :: s24 :: s25 :: s26 :: []), h) = (a_lit 1 3 [.v (.int .u8 0), .v (.int .u8 0), .v (.int .u8 0)] [(0, 1, (.v (.int .u8 1))), (1, 1, (.v (.int .u8 2))), (2, 1, (.v (.int .u8 3)))] h (.c (fun t2 h1 => ACall X 12 [t2] h1 (.c (fun t3 h2 => a_mov t3 h2 (.c (fun t1 h3 => Q .normal ((s0 :: t1 :: t2 :: t3 :: s4 :: s5 :: s6 :: s7 :: s8 :: s9 :: s10 :: s11 :: s12 :: s13 :: s14 :: s15 :: s16 :: s17 :: s18 :: s19 :: s20 :: s21 :: s22 :: s23 :: s24 :: s25 :: s26 :: []), h3)) ())) ())) ())) := by rw [awp_eq]; kernel_rfl
noncomputable def c11_4 : Code := cr c11_2
noncomputable def c11_5 : Code := cl c11_4
theorem w11_5 (s0 s1 s2 s3 s4 s5 s6 s7 s8 s9 s10 s11 s12 s13 s14 s15 s16 s17 s18 s19 s20 s21 s22 s23 s24 s25 s26 : AV) (n : Nat) (h : Heap) (Q : Qt) : awp X n c11_5 Q ((s0 :: s1 :: s2 :: s3 :: s4 :: s5 :: s6 :: s7 :: s8 :: s9 :: s10 :: s11 :: s12 :: s13 :: s14 :: s15 :: s16 :: s17 :: s18 :: s19 :: s20 :: s21 :: s22 :: s23 :: s24 :: s25 :: s26 :: []), h) = (a_mov s1 h (.c (fun t4 h1 => ACall X 29 [t4] h1 (.c (fun t5 h2 => a_bin .eql t5 (.v (.int .u64 513)) h2 (.c (fun t6 h3 => a_mov t6 h3 (.c (fun t7 h4 => a_on t7 true (fun k => a_mov s1 h4 k) h4 (.c (fun t8 h5 => a_on t7 true (fun k => ACall X 29 [t8] h5 k) h5 (.c (fun t9 h6 => a_on t7 true (fun k => a_bin .eql t9 (.v (.int .u64 0)) h6 k) h6 (.c (fun t10 h7 => a_pick t7 t10 (.v (.bool false)) h7 (.c (fun t11 h8 => a_mov t11 h8 (.c (fun t12 h9 => a_on t12 true (fun k => a_mov s1 h9 k) h9 (.c (fun t13 h10 => a_on t12 true (fun k => ACall X 27 [t13] h10 k) h10 (.c (fun t14 h11 => a_on t12 true (fun k => a_bin .eql t14 (.v (.int .i64 10)) h11 k) h11 (.c (fun t15 h12 => a_pick t12 t15 (.v (.bool false)) h12 (.c (fun t16 h13 => a_mov t16 h13 (.c (fun t17 h14 => a_on t17 true (fun k => a_mov s1 h14 k) h14 (.c (fun t18 h15 => a_on t17 true (fun k => ACall X 15 [t18] h15 k) h15 (.c (fun t19 h16 => a_on t17 true (fun k => a_bin .eql t19 (.v (.int .i64 0)) h16 k) h16 (.c (fun t20 h17 => a_pick t17 t20 (.v (.bool false)) h17 (.c (fun t21 h18 => a_mov t21 h18 (.c (fun t22 h19 => a_on t22 true (fun k => a_mov s1 h19 k) h19 (.c (fun t23 h20 => a_on t22 true (fun k => ACall X 14 [t23] h20 k) h20 (.c (fun t24 h21 => a_on t22 true (fun k => a_bin .eql t24 (.v (.int .i64 2)) h21 k) h21 (.c (fun t25 h22 => a_pick t22 t25 (.v (.bool false)) h22 (.c (fun t26 h23 => a_mov t26 h23 (.c (fun t0 h24 => Q .normal ((t0 :: s1 :: s2 :: s3 :: t4 :: t5 :: t6 :: t7 :: t8 :: t9 :: t10 :: t11 :: t12 :: t13 :: t14 :: t15 :: t16 :: t17 :: t18 :: t19 :: t20 :: t21 :: t22 :: t23 :: t24 :: t25 :: t26 :: []), h24)) ())) ())) ())) ())) ())) ())) ())) ())) ())) ())) ())) ())) ())) ())) ())) ())) ())) ())) ())) ())) ())) ())) ())) ())) := by rw [awp_eq]; kernel_rfl
noncomputable def c11_6 : Code := cr c11_4
theorem w11_6 (n : Nat) (Q : Qt) (st : St) : awp X n c11_6 Q st = Q .ret st := by rw [awp_eq]; kernel_rfl
theorem w11_4 (n : Nat) (Q : Qt) (st : St) : awp X n c11_4 Q st = awp X n c11_5 (thenQ (awp X n c11_6 Q) Q) st := by rw [awp_eq]; kernel_rfl
theorem w11_2 (n : Nat) (Q : Qt) (st : St) : awp X n c11_2 Q st = awp X n c11_3 (thenQ (awp X n c11_4 Q) Q) st := by rw [awp_eq]; kernel_rfl
theorem w11_0 (n : Nat) (Q : Qt) (st : St) : awp X n c11_0 Q st = awp X n c11_1 (thenQ (awp X n c11_2 Q) Q) st := by rw [awp_eq]; kernel_rfl
theorem q11_ret (s0 s1 s2 s3 s4 s5 s6 s7 s8 s9 s10 s11 s12 s13 s14 s15 s16 s17 s18 s19 s20 s21 s22 s23 s24 s25 s26 : AV) (h : Heap) (K : Kt) : retQ X Try.f11 K .ret ((s0 :: s1 :: s2 :: s3 :: s4 :: s5 :: s6 :: s7 :: s8 :: s9 :: s10 :: s11 :: s12 :: s13 :: s14 :: s15 :: s16 :: s17 :: s18 :: s19 :: s20 :: s21 :: s22 :: s23 :: s24 :: s25 :: s26 :: []), h) = (K.K s0 h) := by kernel_rfl
theorem q11_normal (s0 s1 s2 s3 s4 s5 s6 s7 s8 s9 s10 s11 s12 s13 s14 s15 s16 s17 s18 s19 s20 s21 s22 s23 s24 s25 s26 : AV) (h : Heap) (K : Kt) : retQ X Try.f11 K .normal ((s0 :: s1 :: s2 :: s3 :: s4 :: s5 :: s6 :: s7 :: s8 :: s9 :: s10 :: s11 :: s12 :: s13 :: s14 :: s15 :: s16 :: s17 :: s18 :: s19 :: s20 :: s21 :: s22 :: s23 :: s24 :: s25 :: s26 :: []), h) = (K.K s0 h) := by kernel_rfl
theorem i11 (h : Heap) (K : Kt) (H : awp X h.length c11_0 (retQ X Try.f11 K) ((.bad :: .bad :: .bad :: .bad :: .bad :: .bad :: .bad :: .bad :: .bad :: .bad :: .bad :: .bad :: .bad :: .bad :: .bad :: .bad :: .bad :: .bad :: .bad :: .bad :: .bad :: .bad :: .bad :: .bad :: .bad :: .bad :: .bad :: []), h)) : ACall X 11 [] h K := acall_intro (fn := Try.f11) (by kernel_rfl) (by kernel_rfl) (by kernel_rfl) H
/-! function 12: sindri/cursor.New -/
noncomputable def c12_0 : Code := bodyOf Try.f12
noncomputable def c12_1 : Code := cl c12_0
theorem w12_1 (s0 s1 s2 s3 s4 s5 s6 s7 : AV) (n : Nat) (h : Heap) (Q : Qt) : awp X n c12_1 Q ((s0 :: s1 :: s2 :: s3 :: s4 :: s5 :: s6 :: s7 :: []), h) = (a_mov (.v (.pointer none)) h (.c (fun t2 h1 => Q .normal ((s0 :: s1 :: t2 :: s3 :: s4 :: s5 :: s6 :: s7 :: []), h1)) ())) := by rw [awp_eq]; kernel_rfl
noncomputable def c12_2 : Code := cr c12_0
noncomputable def c12_3 : Code := cl c12_2
theorem w12_3 (s0 s1 s2 s3 s4 s5 s6 s7 : AV) (n : Nat) (h : Heap) (Q : Qt) : awp X n c12_3 Q ((s0 :: s1 :: s2 :: s3 :: s4 :: s5 :: s6 :: s7 :: []), h) = (a_lit 1 0 [] [] h (.c (fun t3 h1 => a_mov s0 h1 (.c (fun t4 h2 => a_app 1 1 t3 t4 h2 (.c (fun t5 h3 => a_build [.v (.slice none 0 0), .v (.int .i64 0), .v (.bool false), .v (.int .i64 0)] [(0, 1, t5), (2, 1, (.v (.bool true)))] h3 (.c (fun t6 h4 => a_box t6 h4 (.c (fun t7 h5 => a_mov t7 h5 (.c (fun t2 h6 => Q .normal ((s0 :: s1 :: t2 :: t3 :: t4 :: t5 :: t6 :: t7 :: []), h6)) ())) ())) ())) ())) ())) ())) := by rw [awp_eq]; kernel_rfl
noncomputable def c12_4 : Code := cr c12_2
theorem w12_4 (n : Nat) (Q : Qt) (st : St) : awp X n c12_4 Q st = Q .ret st := by rw [awp_eq]; kernel_rfl
theorem w12_2 (n : Nat) (Q : Qt) (st : St) : awp X n c12_2 Q st = awp X n c12_3 (thenQ (awp X n c12_4 Q) Q) st := by rw [awp_eq]; kernel_rfl
theorem w12_0 (n : Nat) (Q : Qt) (st : St) : awp X n c12_0 Q st = awp X n c12_1 (thenQ (awp X n c12_2 Q) Q) st := by rw [awp_eq]; kernel_rfl
theorem q12_ret (s0 s1 s2 s3 s4 s5 s6 s7 : AV) (h : Heap) (K : Kt) : retQ X Try.f12 K .ret ((s0 :: s1 :: s2 :: s3 :: s4 :: s5 :: s6 :: s7 :: []), h) = (K.K s2 h) := by kernel_rfl
theorem q12_normal (s0 s1 s2 s3 s4 s5 s6 s7 : AV) (h : Heap) (K : Kt) : retQ X Try.f12 K .normal ((s0 :: s1 :: s2 :: s3 :: s4 :: s5 :: s6 :: s7 :: []), h) = (K.K s2 h) := by kernel_rfl
theorem i12 (a0 : AV) (h : Heap) (K : Kt) (H : awp X h.length c12_0 (retQ X Try.f12 K) ((a0 :: .bad :: .bad :: .bad :: .bad :: .bad :: .bad :: .bad :: []), h)) : ACall X 12 [a0] h K := acall_intro (fn := Try.f12) (by kernel_rfl) (by kernel_rfl) (by kernel_rfl) H
/-! function 13: (*sindri/cursor.Cursor).Uint -/
noncomputable def c13_0 : Code := bodyOf Try.f13
noncomputable def c13_1 : Code := cl c13_0
theorem w13_1 (s0 s1 s2 s3 s4 s5 s6 s7 s8 s9 s10 s11 s12 s13 s14 s15 s16 s17 s18 s19 s20 s21 s22 s23 s24 s25 s26 s27 s28 : AV) (n : Nat) (h : Heap) (Q : Qt) : awp X n c13_1 Q ((s0 :: s1 :: s2 :: s3 :: s4 :: s5 :: s6 :: s7 :: s8 :: s9 :: s10 :: s11 :: s12 :: s13 :: s14 :: s15 :: s16 :: s17 :: s18 :: s19 :: s20 :: s21 :: s22 :: s23 :: s24 :: s25 :: s26 :: s27 :: s28 :: []), h) = (a_mov (.v (.int .u64 0)) h (.c (fun t4 h1 => Q .normal ((s0 :: s1 :: s2 :: s3 :: t4 :: s5 :: s6 :: s7 :: s8 :: s9 :: s10 :: s11 :: s12 :: s13 :: s14 :: s15 :: s16 :: s17 :: s18 :: s19 :: s20 :: s21 :: s22 :: s23 :: s24 :: s25 :: s26 :: s27 :: s28 :: []), h1)) ())) := by rw [awp_eq]; kernel_rfl
noncomputable def c13_2 : Code := cr c13_0
noncomputable def c13_3 : Code := cl c13_2
theorem w13_3 (s0 s1 s2 s3 s4 s5 s6 s7 s8 s9 s10 s11 s12 s13 s14 s15 s16 s17 s18 s19 s20 s21 s22 s23 s24 s25 s26 s27 s28 : AV) (n : Nat) (h : Heap) (Q : Qt) : awp X n c13_3 Q ((s0 :: s1 :: s2 :: s3 :: s4 :: s5 :: s6 :: s7 :: s8 :: s9 :: s10 :: s11 :: s12 :: s13 :: s14 :: s15 :: s16 :: s17 :: s18 :: s19 :: s20 :: s21 :: s22 :: s23 :: s24 :: s25 :: s26 :: s27 :: s28 :: []), h) = (a_mov (.v (.int .u64 0)) h (.c (fun t5 h1 => Q .normal ((s0 :: s1 :: s2 :: s3 :: s4 :: t5 :: s6 :: s7 :: s8 :: s9 :: s10 :: s11 :: s12 :: s13 :: s14 :: s15 :: s16 :: s17 :: s18 :: s19 :: s20 :: s21 :: s22 :: s23 :: s24 :: s25 :: s26 :: s27 :: s28 :: []), h1)) ())) := by rw [awp_eq]; kernel_rfl
noncomputable def c13_4 : Code := cr c13_2
noncomputable def c13_5 : Code := cl c13_4
noncomputable def c13_6 : Code := cl c13_5
theorem w13_6 (s0 s1 s2 s3 s4 s5 s6 s7 s8 s9 s10 s11 s12 s13 s14 s15 s16 s17 s18 s19 s20 s21 s22 s23 s24 s25 s26 s27 s28 : AV) (n : Nat) (h : Heap) (Q : Qt) : awp X n c13_6 Q ((s0 :: s1 :: s2 :: s3 :: s4 :: s5 :: s6 :: s7 :: s8 :: s9 :: s10 :: s11 :: s12 :: s13 :: s14 :: s15 :: s16 :: s17 :: s18 :: s19 :: s20 :: s21 :: s22 :: s23 :: s24 :: s25 :: s26 :: s27 :: s28 :: []), h) = (a_mov s0 h (.c (fun t8 h1 => a_mov s1 h1 (.c (fun t9 h2 => ACall X 32 [t9] h2 (.c (fun t10 h3 => a_cint .u64 t10 h3 (.c (fun t11 h4 => ACall X 34 [t8, t11] h4 (.c (fun t12 h5 => a_len t12 h5 (.c (fun t13 h6 => a_mov (.v (.int .i64 0)) h6 (.c (fun t14 h7 => Q .normal ((s0 :: s1 :: s2 :: s3 :: s4 :: s5 :: s6 :: s7 :: t8 :: t9 :: t10 :: t11 :: t12 :: t13 :: t14 :: s15 :: s16 :: s17 :: s18 :: s19 :: s20 :: s21 :: s22 :: s23 :: s24 :: s25 :: s26 :: s27 :: s28 :: []), h7)) ())) ())) ())) ())) ())) ())) ())) := by rw [awp_eq]; kernel_rfl
noncomputable def c13_7 : Code := cr c13_5
noncomputable def c13_8 : Code := cl c13_7
noncomputable def c13_9 : Code := cl c13_8
noncomputable def c13_10 : Code := cl c13_9
theorem w13_10 (s0 s1 s2 s3 s4 s5 s6 s7 s8 s9 s10 s11 s12 s13 s14 s15 s16 s17 s18 s19 s20 s21 s22 s23 s24 s25 s26 s27 s28 : AV) (n : Nat) (h : Heap) (Q : Qt) : awp X n c13_10 Q ((s0 :: s1 :: s2 :: s3 :: s4 :: s5 :: s6 :: s7 :: s8 :: s9 :: s10 :: s11 :: s12 :: s13 :: s14 :: s15 :: s16 :: s17 :: s18 :: s19 :: s20 :: s21 :: s22 :: s23 :: s24 :: s25 :: s26 :: s27 :: s28 :: []), h) = (a_bin .lss s14 s13 h (.c (fun t15 h1 => Q .normal ((s0 :: s1 :: s2 :: s3 :: s4 :: s5 :: s6 :: s7 :: s8 :: s9 :: s10 :: s11 :: s12 :: s13 :: s14 :: t15 :: s16 :: s17 :: s18 :: s19 :: s20 :: s21 :: s22 :: s23 :: s24 :: s25 :: s26 :: s27 :: s28 :: []), h1)) ())) := by rw [awp_eq]; kernel_rfl
noncomputable def c13_11 : Code := cr c13_9
noncomputable def c13_12 : Code := cl c13_11
noncomputable def c13_13 : Code := cl c13_12
theorem w13_13 (n : Nat) (Q : Qt) (st : St) : awp X n c13_13 Q st = Q .normal st := by rw [awp_eq]; kernel_rfl
noncomputable def c13_14 : Code := cr c13_12
theorem w13_14 (n : Nat) (Q : Qt) (st : St) : awp X n c13_14 Q st = Q (.exit 0) st := by rw [awp_eq]; kernel_rfl
theorem w13_12 (s0 s1 s2 s3 s4 s5 s6 s7 s8 s9 s10 s11 s12 s13 s14 s15 s16 s17 s18 s19 s20 s21 s22 s23 s24 s25 s26 s27 s28 : AV) (n : Nat) (h : Heap) (Q : Qt) : awp X n c13_12 Q ((s0 :: s1 :: s2 :: s3 :: s4 :: s5 :: s6 :: s7 :: s8 :: s9 :: s10 :: s11 :: s12 :: s13 :: s14 :: s15 :: s16 :: s17 :: s18 :: s19 :: s20 :: s21 :: s22 :: s23 :: s24 :: s25 :: s26 :: s27 :: s28 :: []), h) = a_cond s15 (awp X n c13_13 Q ((s0 :: s1 :: s2 :: s3 :: s4 :: s5 :: s6 :: s7 :: s8 :: s9 :: s10 :: s11 :: s12 :: s13 :: s14 :: s15 :: s16 :: s17 :: s18 :: s19 :: s20 :: s21 :: s22 :: s23 :: s24 :: s25 :: s26 :: s27 :: s28 :: []), h)) (awp X n c13_14 Q ((s0 :: s1 :: s2 :: s3 :: s4 :: s5 :: s6 :: s7 :: s8 :: s9 :: s10 :: s11 :: s12 :: s13 :: s14 :: s15 :: s16 :: s17 :: s18 :: s19 :: s20 :: s21 :: s22 :: s23 :: s24 :: s25 :: s26 :: s27 :: s28 :: []), h)) := by rw [awp_eq]; kernel_rfl
noncomputable def c13_15 : Code := cr c13_11
noncomputable def c13_16 : Code := cl c13_15
noncomputable def c13_17 : Code := cl c13_16
noncomputable def c13_18 : Code := cl c13_17
theorem w13_18 (s0 s1 s2 s3 s4 s5 s6 s7 s8 s9 s10 s11 s12 s13 s14 s15 s16 s17 s18 s19 s20 s21 s22 s23 s24 s25 s26 s27 s28 : AV) (n : Nat) (h : Heap) (Q : Qt) : awp X n c13_18 Q ((s0 :: s1 :: s2 :: s3 :: s4 :: s5 :: s6 :: s7 :: s8 :: s9 :: s10 :: s11 :: s12 :: s13 :: s14 :: s15 :: s16 :: s17 :: s18 :: s19 :: s20 :: s21 :: s22 :: s23 :: s24 :: s25 :: s26 :: s27 :: s28 :: []), h) = (a_mov s14 h (.c (fun t16 h1 => a_ia 1 s12 s14 h1 (.c (fun t17 h2 => a_load 1 false t17 h2 (.c (fun t18 h3 => a_mov t16 h3 (.c (fun t6 h4 => a_mov t18 h4 (.c (fun t7 h5 => Q .normal ((s0 :: s1 :: s2 :: s3 :: s4 :: s5 :: t6 :: t7 :: s8 :: s9 :: s10 :: s11 :: s12 :: s13 :: s14 :: s15 :: t16 :: t17 :: t18 :: s19 :: s20 :: s21 :: s22 :: s23 :: s24 :: s25 :: s26 :: s27 :: s28 :: []), h5)) ())) ())) ())) ())) ())) := by rw [awp_eq]; kernel_rfl
noncomputable def c13_19 : Code := cr c13_17
theorem w13_19 (s0 s1 s2 s3 s4 s5 s6 s7 s8 s9 s10 s11 s12 s13 s14 s15 s16 s17 s18 s19 s20 s21 s22 s23 s24 s25 s26 s27 s28 : AV) (n : Nat) (h : Heap) (Q : Qt) : awp X n c13_19 Q ((s0 :: s1 :: s2 :: s3 :: s4 :: s5 :: s6 :: s7 :: s8 :: s9 :: s10 :: s11 :: s12 :: s13 :: s14 :: s15 :: s16 :: s17 :: s18 :: s19 :: s20 :: s21 :: s22 :: s23 :: s24 :: s25 :: s26 :: s27 :: s28 :: []), h) = (a_mov s5 h (.c (fun t19 h1 => a_mov s7 h1 (.c (fun t20 h2 => a_cint .u64 t20 h2 (.c (fun t21 h3 => a_mov s6 h3 (.c (fun t22 h4 => a_bin .mul (.v (.int .i64 8)) t22 h4 (.c (fun t23 h5 => a_cint .u64 t23 h5 (.c (fun t24 h6 => a_bin .shl t21 t24 h6 (.c (fun t25 h7 => a_bin .or t19 t25 h7 (.c (fun t26 h8 => a_mov t26 h8 (.c (fun t5 h9 => Q .normal ((s0 :: s1 :: s2 :: s3 :: s4 :: t5 :: s6 :: s7 :: s8 :: s9 :: s10 :: s11 :: s12 :: s13 :: s14 :: s15 :: s16 :: s17 :: s18 :: t19 :: t20 :: t21 :: t22 :: t23 :: t24 :: t25 :: t26 :: s27 :: s28 :: []), h9)) ())) ())) ())) ())) ())) ())) ())) ())) ())) := by rw [awp_eq]; kernel_rfl
theorem w13_17 (n : Nat) (Q : Qt) (st : St) : awp X n c13_17 Q st = awp X n c13_18 (thenQ (awp X n c13_19 Q) Q) st := by rw [awp_eq]; kernel_rfl
theorem w13_16 (n : Nat) (Q : Qt) (st : St) : awp X n c13_16 Q st = awp X n c13_17 (blockQ 1 Q) st := by rw [awp_eq]; kernel_rfl
noncomputable def c13_20 : Code := cr c13_15
theorem w13_20 (s0 s1 s2 s3 s4 s5 s6 s7 s8 s9 s10 s11 s12 s13 s14 s15 s16 s17 s18 s19 s20 s21 s22 s23 s24 s25 s26 s27 s28 : AV) (n : Nat) (h : Heap) (Q : Qt) : awp X n c13_20 Q ((s0 :: s1 :: s2 :: s3 :: s4 :: s5 :: s6 :: s7 :: s8 :: s9 :: s10 :: s11 :: s12 :: s13 :: s14 :: s15 :: s16 :: s17 :: s18 :: s19 :: s20 :: s21 :: s22 :: s23 :: s24 :: s25 :: s26 :: s27 :: s28 :: []), h) = (a_bin .add s14 (.v (.int .i64 1)) h (.c (fun t27 h1 => a_mov t27 h1 (.c (fun t14 h2 => Q .normal ((s0 :: s1 :: s2 :: s3 :: s4 :: s5 :: s6 :: s7 :: s8 :: s9 :: s10 :: s11 :: s12 :: s13 :: t14 :: s15 :: s16 :: s17 :: s18 :: s19 :: s20 :: s21 :: s22 :: s23 :: s24 :: s25 :: s26 :: t27 :: s28 :: []), h2)) ())) ())) := by rw [awp_eq]; kernel_rfl
theorem w13_15 (n : Nat) (Q : Qt) (st : St) : awp X n c13_15 Q st = awp X n c13_16 (thenQ (awp X n c13_20 Q) Q) st := by rw [awp_eq]; kernel_rfl
theorem w13_11 (n : Nat) (Q : Qt) (st : St) : awp X n c13_11 Q st = awp X n c13_12 (thenQ (awp X n c13_15 Q) Q) st := by rw [awp_eq]; kernel_rfl
theorem w13_9 (n : Nat) (Q : Qt) (st : St) : awp X n c13_9 Q st = awp X n c13_10 (thenQ (awp X n c13_11 Q) Q) st := by rw [awp_eq]; kernel_rfl
theorem w13_8 (n : Nat) (Q : Qt) (st : St) : awp X n c13_8 Q st = ALoop X n c13_9 Q st := by rw [awp_eq]; kernel_rfl
theorem w13_7 (n : Nat) (Q : Qt) (st : St) : awp X n c13_7 Q st = awp X n c13_8 (blockQ 0 Q) st := by rw [awp_eq]; kernel_rfl
theorem w13_5 (n : Nat) (Q : Qt) (st : St) : awp X n c13_5 Q st = awp X n c13_6 (thenQ (awp X n c13_7 Q) Q) st := by rw [awp_eq]; kernel_rfl
noncomputable def c13_21 : Code := cr c13_4
noncomputable def c13_22 : Code := cl c13_21
theorem w13_22 (s0 s1 s2 s3 s4 s5 s6 s7 s8 s9 s10 s11 s12 s13 s14 s15 s16 s17 s18 s19 s20 s21 s22 s23 s24 s25 s26 s27 s28 : AV) (n : Nat) (h : Heap) (Q : Qt) : awp X n c13_22 Q ((s0 :: s1 :: s2 :: s3 :: s4 :: s5 :: s6 :: s7 :: s8 :: s9 :: s10 :: s11 :: s12 :: s13 :: s14 :: s15 :: s16 :: s17 :: s18 :: s19 :: s20 :: s21 :: s22 :: s23 :: s24 :: s25 :: s26 :: s27 :: s28 :: []), h) = (a_mov s5 h (.c (fun t28 h1 => a_mov t28 h1 (.c (fun t4 h2 => Q .normal ((s0 :: s1 :: s2 :: s3 :: t4 :: s5 :: s6 :: s7 :: s8 :: s9 :: s10 :: s11 :: s12 :: s13 :: s14 :: s15 :: s16 :: s17 :: s18 :: s19 :: s20 :: s21 :: s22 :: s23 :: s24 :: s25 :: s26 :: s27 :: t28 :: []), h2)) ())) ())) := by rw [awp_eq]; kernel_rfl
noncomputable def c13_23 : Code := cr c13_21
theorem w13_23 (n : Nat) (Q : Qt) (st : St) : awp X n c13_23 Q st = Q .ret st := by rw [awp_eq]; kernel_rfl
theorem w13_21 (n : Nat) (Q : Qt) (st : St) : awp X n c13_21 Q st = awp X n c13_22 (thenQ (awp X n c13_23 Q) Q) st := by rw [awp_eq]; kernel_rfl
theorem w13_4 (n : Nat) (Q : Qt) (st : St) : awp X n c13_4 Q st = awp X n c13_5 (thenQ (awp X n c13_21 Q) Q) st := by rw [awp_eq]; kernel_rfl
theorem w13_2 (n : Nat) (Q : Qt) (st : St) : awp X n c13_2 Q st = awp X n c13_3 (thenQ (awp X n c13_4 Q) Q) st := by rw [awp_eq]; kernel_rfl
theorem w13_0 (n : Nat) (Q : Qt) (st : St) : awp X n c13_0 Q st = awp X n c13_1 (thenQ (awp X n c13_2 Q) Q) st := by rw [awp_eq]; kernel_rfl
theorem q13_ret (s0 s1 s2 s3 s4 s5 s6 s7 s8 s9 s10 s11 s12 s13 s14 s15 s16 s17 s18 s19 s20 s21 s22 s23 s24 s25 s26 s27 s28 : AV) (h : Heap) (K : Kt) : retQ X Try.f13 K .ret ((s0 :: s1 :: s2 :: s3 :: s4 :: s5 :: s6 :: s7 :: s8 :: s9 :: s10 :: s11 :: s12 :: s13 :: s14 :: s15 :: s16 :: s17 :: s18 :: s19 :: s20 :: s21 :: s22 :: s23 :: s24 :: s25 :: s26 :: s27 :: s28 :: []), h) = (K.K s4 h) := by kernel_rfl
theorem q13_normal (s0 s1 s2 s3 s4 s5 s6 s7 s8 s9 s10 s11 s12 s13 s14 s15 s16 s17 s18 s19 s20 s21 s22 s23 s24 s25 s26 s27 s28 : AV) (h : Heap) (K : Kt) : retQ X Try.f13 K .normal ((s0 :: s1 :: s2 :: s3 :: s4 :: s5 :: s6 :: s7 :: s8 :: s9 :: s10 :: s11 :: s12 :: s13 :: s14 :: s15 :: s16 :: s17 :: s18 :: s19 :: s20 :: s21 :: s22 :: s23 :: s24 :: s25 :: s26 :: s27 :: s28 :: []), h) = (K.K s4 h) := by kernel_rfl
theorem i13 (a0 a1 : AV) (h : Heap) (K : Kt) (H : awp X h.length c13_0 (retQ X Try.f13 K) ((a0 :: a1 :: .bad :: .bad :: .bad :: .bad :: .bad :: .bad :: .bad :: .bad :: .bad :: .bad :: .bad :: .bad :: .bad :: .bad :: .bad :: .bad :: .bad :: .bad :: .bad :: .bad :: .bad :: .bad :: .bad :: .bad :: .bad :: .bad :: .bad :: []), h)) : ACall X 13 [a0, a1] h K := acall_intro (fn := Try.f13) (by kernel_rfl) (by kernel_rfl) (by kernel_rfl) H
/-! function 14: (*sindri/cursor.Cursor).At -/
noncomputable def c14_0 : Code := bodyOf Try.f14
noncomputable def c14_1 : Code := cl c14_0
theorem w14_1 (s0 s1 s2 s3 s4 s5 s6 s7 s8 : AV) (n : Nat) (h : Heap) (Q : Qt) : awp X n c14_1 Q ((s0 :: s1 :: s2 :: s3 :: s4 :: s5 :: s6 :: s7 :: s8 :: []), h) = (a_mov (.v (.int .i64 0)) h (.c (fun t2 h1 => Q .normal ((s0 :: s1 :: t2 :: s3 :: s4 :: s5 :: s6 :: s7 :: s8 :: []), h1)) ())) := by rw [awp_eq]; kernel_rfl
noncomputable def c14_2 : Code := cr c14_0
noncomputable def c14_3 : Code := cl c14_2
noncomputable def c14_4 : Code := cl c14_3
theorem w14_4 (s0 s1 s2 s3 s4 s5 s6 s7 s8 : AV) (n : Nat) (h : Heap) (Q : Qt) : awp X n c14_4 Q ((s0 :: s1 :: s2 :: s3 :: s4 :: s5 :: s6 :: s7 :: s8 :: []), h) = (a_mov s0 h (.c (fun t3 h1 => a_eqp false t3 (.v (.pointer none)) h1 (.c (fun t4 h2 => Q .normal ((s0 :: s1 :: s2 :: t3 :: t4 :: s5 :: s6 :: s7 :: s8 :: []), h2)) ())) ())) := by rw [awp_eq]; kernel_rfl
noncomputable def c14_5 : Code := cr c14_3
noncomputable def c14_6 : Code := cl c14_5
noncomputable def c14_7 : Code := cl c14_6
theorem w14_7 (s0 s1 s2 s3 s4 s5 s6 s7 s8 : AV) (n : Nat) (h : Heap) (Q : Qt) : awp X n c14_7 Q ((s0 :: s1 :: s2 :: s3 :: s4 :: s5 :: s6 :: s7 :: s8 :: []), h) = (a_mov (.v (.int .i64 0)) h (.c (fun t2 h1 => Q .normal ((s0 :: s1 :: t2 :: s3 :: s4 :: s5 :: s6 :: s7 :: s8 :: []), h1)) ())) := by rw [awp_eq]; kernel_rfl
noncomputable def c14_8 : Code := cr c14_6
theorem w14_8 (n : Nat) (Q : Qt) (st : St) : awp X n c14_8 Q st = Q .ret st := by rw [awp_eq]; kernel_rfl
theorem w14_6 (n : Nat) (Q : Qt) (st : St) : awp X n c14_6 Q st = awp X n c14_7 (thenQ (awp X n c14_8 Q) Q) st := by rw [awp_eq]; kernel_rfl
noncomputable def c14_9 : Code := cr c14_5
theorem w14_9 (n : Nat) (Q : Qt) (st : St) : awp X n c14_9 Q st = Q .normal st := by rw [awp_eq]; kernel_rfl
theorem w14_5 (s0 s1 s2 s3 s4 s5 s6 s7 s8 : AV) (n : Nat) (h : Heap) (Q : Qt) : awp X n c14_5 Q ((s0 :: s1 :: s2 :: s3 :: s4 :: s5 :: s6 :: s7 :: s8 :: []), h) = a_cond s4 (awp X n c14_6 Q ((s0 :: s1 :: s2 :: s3 :: s4 :: s5 :: s6 :: s7 :: s8 :: []), h)) (awp X n c14_9 Q ((s0 :: s1 :: s2 :: s3 :: s4 :: s5 :: s6 :: s7 :: s8 :: []), h)) := by rw [awp_eq]; kernel_rfl
theorem w14_3 (n : Nat) (Q : Qt) (st : St) : awp X n c14_3 Q st = awp X n c14_4 (thenQ (awp X n c14_5 Q) Q) st := by rw [awp_eq]; kernel_rfl
noncomputable def c14_10 : Code := cr c14_2
noncomputable def c14_11 : Code := cl c14_10
theorem w14_11 (s0 s1 s2 s3 s4 s5 s6 s7 s8 : AV) (n : Nat) (h : Heap) (Q : Qt) : awp X n c14_11 Q ((s0 :: s1 :: s2 :: s3 :: s4 :: s5 :: s6 :: s7 :: s8 :: []), h) = (a_mov s0 h (.c (fun t5 h1 => a_nilc t5 h1 (.c (fun t6 h2 => a_fa 1 t6 h2 (.c (fun t7 h3 => a_load 1 false t7 h3 (.c (fun t8 h4 => a_mov t8 h4 (.c (fun t2 h5 => Q .normal ((s0 :: s1 :: t2 :: s3 :: s4 :: t5 :: t6 :: t7 :: t8 :: []), h5)) ())) ())) ())) ())) ())) := by rw [awp_eq]; kernel_rfl
noncomputable def c14_12 : Code := cr c14_10
theorem w14_12 (n : Nat) (Q : Qt) (st : St) : awp X n c14_12 Q st = Q .ret st := by rw [awp_eq]; kernel_rfl
theorem w14_10 (n : Nat) (Q : Qt) (st : St) : awp X n c14_10 Q st = awp X n c14_11 (thenQ (awp X n c14_12 Q) Q) st := by rw [awp_eq]; kernel_rfl
theorem w14_2 (n : Nat) (Q : Qt) (st : St) : awp X n c14_2 Q st = awp X n c14_3 (thenQ (awp X n c14_10 Q) Q) st := by rw [awp_eq]; kernel_rfl
theorem w14_0 (n : Nat) (Q : Qt) (st : St) : awp X n c14_0 Q st = awp X n c14_1 (thenQ (awp X n c14_2 Q) Q) st := by rw [awp_eq]; kernel_rfl
theorem q14_ret (s0 s1 s2 s3 s4 s5 s6 s7 s8 : AV) (h : Heap) (K : Kt) : retQ X Try.f14 K .ret ((s0 :: s1 :: s2 :: s3 :: s4 :: s5 :: s6 :: s7 :: s8 :: []), h) = (K.K s2 h) := by kernel_rfl
theorem q14_normal (s0 s1 s2 s3 s4 s5 s6 s7 s8 : AV) (h : Heap) (K : Kt) : retQ X Try.f14 K .normal ((s0 :: s1 :: s2 :: s3 :: s4 :: s5 :: s6 :: s7 :: s8 :: []), h) = (K.K s2 h) := by kernel_rfl
theorem i14 (a0 : AV) (h : Heap) (K : Kt) (H : awp X h.length c14_0 (retQ X Try.f14 K) ((a0 :: .bad :: .bad :: .bad :: .bad :: .bad :: .bad :: .bad :: .bad :: []), h)) : ACall X 14 [a0] h K := acall_intro (fn := Try.f14) (by kernel_rfl) (by kernel_rfl) (by kernel_rfl) H
/-! function 15: (*sindri/cursor.Cursor).Left -/
noncomputable def c15_0 : Code := bodyOf Try.f15
noncomputable def c15_1 : Code := cl c15_0
theorem w15_1 (s0 s1 s2 s3 s4 s5 s6 s7 s8 s9 s10 s11 s12 s13 s14 s15 : AV) (n : Nat) (h : Heap) (Q : Qt) : awp X n c15_1 Q ((s0 :: s1 :: s2 :: s3 :: s4 :: s5 :: s6 :: s7 :: s8 :: s9 :: s10 :: s11 :: s12 :: s13 :: s14 :: s15 :: []), h) = (a_mov (.v (.int .i64 0)) h (.c (fun t2 h1 => Q .normal ((s0 :: s1 :: t2 :: s3 :: s4 :: s5 :: s6 :: s7 :: s8 :: s9 :: s10 :: s11 :: s12 :: s13 :: s14 :: s15 :: []), h1)) ())) := by rw [awp_eq]; kernel_rfl
noncomputable def c15_2 : Code := cr c15_0
noncomputable def c15_3 : Code := cl c15_2
noncomputable def c15_4 : Code := cl c15_3
theorem w15_4 (s0 s1 s2 s3 s4 s5 s6 s7 s8 s9 s10 s11 s12 s13 s14 s15 : AV) (n : Nat) (h : Heap) (Q : Qt) : awp X n c15_4 Q ((s0 :: s1 :: s2 :: s3 :: s4 :: s5 :: s6 :: s7 :: s8 :: s9 :: s10 :: s11 :: s12 :: s13 :: s14 :: s15 :: []), h) = (a_mov s0 h (.c (fun t3 h1 => ACall X 27 [t3] h1 (.c (fun t4 h2 => a_bin .neq t4 (.v (.int .i64 0)) h2 (.c (fun t5 h3 => Q .normal ((s0 :: s1 :: s2 :: t3 :: t4 :: t5 :: s6 :: s7 :: s8 :: s9 :: s10 :: s11 :: s12 :: s13 :: s14 :: s15 :: []), h3)) ())) ())) ())) := by rw [awp_eq]; kernel_rfl
noncomputable def c15_5 : Code := cr c15_3
noncomputable def c15_6 : Code := cl c15_5
noncomputable def c15_7 : Code := cl c15_6
theorem w15_7 (s0 s1 s2 s3 s4 s5 s6 s7 s8 s9 s10 s11 s12 s13 s14 s15 : AV) (n : Nat) (h : Heap) (Q : Qt) : awp X n c15_7 Q ((s0 :: s1 :: s2 :: s3 :: s4 :: s5 :: s6 :: s7 :: s8 :: s9 :: s10 :: s11 :: s12 :: s13 :: s14 :: s15 :: []), h) = (a_mov (.v (.int .i64 0)) h (.c (fun t2 h1 => Q .normal ((s0 :: s1 :: t2 :: s3 :: s4 :: s5 :: s6 :: s7 :: s8 :: s9 :: s10 :: s11 :: s12 :: s13 :: s14 :: s15 :: []), h1)) ())) := by rw [awp_eq]; kernel_rfl
noncomputable def c15_8 : Code := cr c15_6
theorem w15_8 (n : Nat) (Q : Qt) (st : St) : awp X n c15_8 Q st = Q .ret st := by rw [awp_eq]; kernel_rfl
theorem w15_6 (n : Nat) (Q : Qt) (st : St) : awp X n c15_6 Q st = awp X n c15_7 (thenQ (awp X n c15_8 Q) Q) st := by rw [awp_eq]; kernel_rfl
noncomputable def c15_9 : Code := cr c15_5
theorem w15_9 (n : Nat) (Q : Qt) (st : St) : awp X n c15_9 Q st = Q .normal st := by rw [awp_eq]; kernel_rfl
theorem w15_5 (s0 s1 s2 s3 s4 s5 s6 s7 s8 s9 s10 s11 s12 s13 s14 s15 : AV) (n : Nat) (h : Heap) (Q : Qt) : awp X n c15_5 Q ((s0 :: s1 :: s2 :: s3 :: s4 :: s5 :: s6 :: s7 :: s8 :: s9 :: s10 :: s11 :: s12 :: s13 :: s14 :: s15 :: []), h) = a_cond s5 (awp X n c15_6 Q ((s0 :: s1 :: s2 :: s3 :: s4 :: s5 :: s6 :: s7 :: s8 :: s9 :: s10 :: s11 :: s12 :: s13 :: s14 :: s15 :: []), h)) (awp X n c15_9 Q ((s0 :: s1 :: s2 :: s3 :: s4 :: s5 :: s6 :: s7 :: s8 :: s9 :: s10 :: s11 :: s12 :: s13 :: s14 :: s15 :: []), h)) := by rw [awp_eq]; kernel_rfl
theorem w15_3 (n : Nat) (Q : Qt) (st : St) : awp X n c15_3 Q st = awp X n c15_4 (thenQ (awp X n c15_5 Q) Q) st := by rw [awp_eq]; kernel_rfl
noncomputable def c15_10 : Code := cr c15_2
noncomputable def c15_11 : Code := cl c15_10
theorem w15_11 (s0 s1 s2 s3 s4 s5 s6 s7 s8 s9 s10 s11 s12 s13 s14 s15 : AV) (n : Nat) (h : Heap) (Q : Qt) : awp X n c15_11 Q ((s0 :: s1 :: s2 :: s3 :: s4 :: s5 :: s6 :: s7 :: s8 :: s9 :: s10 :: s11 :: s12 :: s13 :: s14 :: s15 :: []), h) = (a_mov s0 h (.c (fun t6 h1 => a_nilc t6 h1 (.c (fun t7 h2 => a_fa 0 t7 h2 (.c (fun t8 h3 => a_load 1 false t8 h3 (.c (fun t9 h4 => a_len t9 h4 (.c (fun t10 h5 => a_mov s0 h5 (.c (fun t11 h6 => a_nilc t11 h6 (.c (fun t12 h7 => a_fa 1 t12 h7 (.c (fun t13 h8 => a_load 1 false t13 h8 (.c (fun t14 h9 => a_bin .sub t10 t14 h9 (.c (fun t15 h10 => a_mov t15 h10 (.c (fun t2 h11 => Q .normal ((s0 :: s1 :: t2 :: s3 :: s4 :: s5 :: t6 :: t7 :: t8 :: t9 :: t10 :: t11 :: t12 :: t13 :: t14 :: t15 :: []), h11)) ())) ())) ())) ())) ())) ())) ())) ())) ())) ())) ())) := by rw [awp_eq]; kernel_rfl
noncomputable def c15_12 : Code := cr c15_10
theorem w15_12 (n : Nat) (Q : Qt) (st : St) : awp X n c15_12 Q st = Q .ret st := by rw [awp_eq]; kernel_rfl
theorem w15_10 (n : Nat) (Q : Qt) (st : St) : awp X n c15_10 Q st = awp X n c15_11 (thenQ (awp X n c15_12 Q) Q) st := by rw [awp_eq]; kernel_rfl
theorem w15_2 (n : Nat) (Q : Qt) (st : St) : awp X n c15_2 Q st = awp X n c15_3 (thenQ (awp X n c15_10 Q) Q) st := by rw [awp_eq]; kernel_rfl
theorem w15_0 (n : Nat) (Q : Qt) (st : St) : awp X n c15_0 Q st = awp X n c15_1 (thenQ (awp X n c15_2 Q) Q) st := by rw [awp_eq]; kernel_rfl
theorem q15_ret (s0 s1 s2 s3 s4 s5 s6 s7 s8 s9 s10 s11 s12 s13 s14 s15 : AV) (h : Heap) (K : Kt) : retQ X Try.f15 K .ret ((s0 :: s1 :: s2 :: s3 :: s4 :: s5 :: s6 :: s7 :: s8 :: s9 :: s10 :: s11 :: s12 :: s13 :: s14 :: s15 :: []), h) = (K.K s2 h) := by kernel_rfl
theorem q15_normal (s0 s1 s2 s3 s4 s5 s6 s7 s8 s9 s10 s11 s12 s13 s14 s15 : AV) (h : Heap) (K : Kt) : retQ X Try.f15 K .normal ((s0 :: s1 :: s2 :: s3 :: s4 :: s5 :: s6 :: s7 :: s8 :: s9 :: s10 :: s11 :: s12 :: s13 :: s14 :: s15 :: []), h) = (K.K s2 h) := by kernel_rfl
theorem i15 (a0 : AV) (h : Heap) (K : Kt) (H : awp X h.length c15_0 (retQ X Try.f15 K) ((a0 :: .bad :: .bad :: .bad :: .bad :: .bad :: .bad :: .bad :: .bad :: .bad :: .bad :: .bad :: .bad :: .bad :: .bad :: .bad :: []), h)) : ACall X 15 [a0] h K := acall_intro (fn := Try.f15) (by kernel_rfl) (by kernel_rfl) (by kernel_rfl) H
/-! function 16: sindri/cursor.Sum -/
noncomputable def c16_0 : Code := bodyOf Try.f16
noncomputable def c16_1 : Code := cl c16_0
theorem w16_1 (s0 s1 s2 s3 s4 s5 s6 s7 s8 s9 s10 s11 s12 : AV) (n : Nat) (h : Heap) (Q : Qt) : awp X n c16_1 Q ((s0 :: s1 :: s2 :: s3 :: s4 :: s5 :: s6 :: s7 :: s8 :: s9 :: s10 :: s11 :: s12 :: []), h) = (a_mov (.v (.int .u64 0)) h (.c (fun t4 h1 => a_mov (.v (.bool false)) h1 (.c (fun t5 h2 => Q .normal ((s0 :: s1 :: s2 :: s3 :: t4 :: t5 :: s6 :: s7 :: s8 :: s9 :: s10 :: s11 :: s12 :: []), h2)) ())) ())) := by rw [awp_eq]; kernel_rfl
noncomputable def c16_2 : Code := cr c16_0
noncomputable def c16_3 : Code := cl c16_2
noncomputable def c16_4 : Code := cl c16_3
theorem w16_4 (s0 s1 s2 s3 s4 s5 s6 s7 s8 s9 s10 s11 s12 : AV) (n : Nat) (h : Heap) (Q : Qt) : awp X n c16_4 Q ((s0 :: s1 :: s2 :: s3 :: s4 :: s5 :: s6 :: s7 :: s8 :: s9 :: s10 :: s11 :: s12 :: []), h) = (a_mov s1 h (.c (fun t6 h1 => a_mov s0 h1 (.c (fun t7 h2 => a_bin .sub (.v (.int .u64 18446744073709551615)) t7 h2 (.c (fun t8 h3 => a_bin .gtr t6 t8 h3 (.c (fun t9 h4 => Q .normal ((s0 :: s1 :: s2 :: s3 :: s4 :: s5 :: t6 :: t7 :: t8 :: t9 :: s10 :: s11 :: s12 :: []), h4)) ())) ())) ())) ())) := by rw [awp_eq]; kernel_rfl
noncomputable def c16_5 : Code := cr c16_3
noncomputable def c16_6 : Code := cl c16_5
noncomputable def c16_7 : Code := cl c16_6
theorem w16_7 (s0 s1 s2 s3 s4 s5 s6 s7 s8 s9 s10 s11 s12 : AV) (n : Nat) (h : Heap) (Q : Qt) : awp X n c16_7 Q ((s0 :: s1 :: s2 :: s3 :: s4 :: s5 :: s6 :: s7 :: s8 :: s9 :: s10 :: s11 :: s12 :: []), h) = (a_mov (.v (.int .u64 0)) h (.c (fun t4 h1 => a_mov (.v (.bool false)) h1 (.c (fun t5 h2 => Q .normal ((s0 :: s1 :: s2 :: s3 :: t4 :: t5 :: s6 :: s7 :: s8 :: s9 :: s10 :: s11 :: s12 :: []), h2)) ())) ())) := by rw [awp_eq]; kernel_rfl
noncomputable def c16_8 : Code := cr c16_6
theorem w16_8 (n : Nat) (Q : Qt) (st : St) : awp X n c16_8 Q st = Q .ret st := by rw [awp_eq]; kernel_rfl
theorem w16_6 (n : Nat) (Q : Qt) (st : St) : awp X n c16_6 Q st = awp X n c16_7 (thenQ (awp X n c16_8 Q) Q) st := by rw [awp_eq]; kernel_rfl
noncomputable def c16_9 : Code := cr c16_5
theorem w16_9 (n : Nat) (Q : Qt) (st : St) : awp X n c16_9 Q st = Q .normal st := by rw [awp_eq]; kernel_rfl
theorem w16_5 (s0 s1 s2 s3 s4 s5 s6 s7 s8 s9 s10 s11 s12 : AV) (n : Nat) (h : Heap) (Q : Qt) : awp X n c16_5 Q ((s0 :: s1 :: s2 :: s3 :: s4 :: s5 :: s6 :: s7 :: s8 :: s9 :: s10 :: s11 :: s12 :: []), h) = a_cond s9 (awp X n c16_6 Q ((s0 :: s1 :: s2 :: s3 :: s4 :: s5 :: s6 :: s7 :: s8 :: s9 :: s10 :: s11 :: s12 :: []), h)) (awp X n c16_9 Q ((s0 :: s1 :: s2 :: s3 :: s4 :: s5 :: s6 :: s7 :: s8 :: s9 :: s10 :: s11 :: s12 :: []), h)) := by rw [awp_eq]; kernel_rfl
theorem w16_3 (n : Nat) (Q : Qt) (st : St) : awp X n c16_3 Q st = awp X n c16_4 (thenQ (awp X n c16_5 Q) Q) st := by rw [awp_eq]; kernel_rfl
noncomputable def c16_10 : Code := cr c16_2
noncomputable def c16_11 : Code := cl c16_10
theorem w16_11 (s0 s1 s2 s3 s4 s5 s6 s7 s8 s9 s10 s11 s12 : AV) (n : Nat) (h : Heap) (Q : Qt) : awp X n c16_11 Q ((s0 :: s1 :: s2 :: s3 :: s4 :: s5 :: s6 :: s7 :: s8 :: s9 :: s10 :: s11 :: s12 :: []), h) = (a_mov s0 h (.c (fun t10 h1 => a_mov s1 h1 (.c (fun t11 h2 => a_bin .add t10 t11 h2 (.c (fun t12 h3 => a_mov t12 h3 (.c (fun t4 h4 => a_mov (.v (.bool true)) h4 (.c (fun t5 h5 => Q .normal ((s0 :: s1 :: s2 :: s3 :: t4 :: t5 :: s6 :: s7 :: s8 :: s9 :: t10 :: t11 :: t12 :: []), h5)) ())) ())) ())) ())) ())) := by rw [awp_eq]; kernel_rfl
noncomputable def c16_12 : Code := cr c16_10
theorem w16_12 (n : Nat) (Q : Qt) (st : St) : awp X n c16_12 Q st = Q .ret st := by rw [awp_eq]; kernel_rfl
theorem w16_10 (n : Nat) (Q : Qt) (st : St) : awp X n c16_10 Q st = awp X n c16_11 (thenQ (awp X n c16_12 Q) Q) st := by rw [awp_eq]; kernel_rfl
theorem w16_2 (n : Nat) (Q : Qt) (st : St) : awp X n c16_2 Q st = awp X n c16_3 (thenQ (awp X n c16_10 Q) Q) st := by rw [awp_eq]; kernel_rfl
theorem w16_0 (n : Nat) (Q : Qt) (st : St) : awp X n c16_0 Q st = awp X n c16_1 (thenQ (awp X n c16_2 Q) Q) st := by rw [awp_eq]; kernel_rfl
theorem q16_ret (s0 s1 s2 s3 s4 s5 s6 s7 s8 s9 s10 s11 s12 : AV) (h : Heap) (K : Kt) : retQ X Try.f16 K .ret ((s0 :: s1 :: s2 :: s3 :: s4 :: s5 :: s6 :: s7 :: s8 :: s9 :: s10 :: s11 :: s12 :: []), h) = (K.K (.t [s4, s5]) h) := by kernel_rfl
theorem q16_normal (s0 s1 s2 s3 s4 s5 s6 s7 s8 s9 s10 s11 s12 : AV) (h : Heap) (K : Kt) : retQ X Try.f16 K .normal ((s0 :: s1 :: s2 :: s3 :: s4 :: s5 :: s6 :: s7 :: s8 :: s9 :: s10 :: s11 :: s12 :: []), h) = (K.K (.t [s4, s5]) h) := by kernel_rfl
theorem i16 (a0 a1 : AV) (h : Heap) (K : Kt) (H : awp X h.length c16_0 (retQ X Try.f16 K) ((a0 :: a1 :: .bad :: .bad :: .bad :: .bad :: .bad :: .bad :: .bad :: .bad :: .bad :: .bad :: .bad :: []), h)) : ACall X 16 [a0, a1] h K := acall_intro (fn := Try.f16) (by kernel_rfl) (by kernel_rfl) (by kernel_rfl) H
/-! function 17: sindri/sindriref01.Sum -/
noncomputable def c17_0 : Code := bodyOf Try.f17
noncomputable def c17_1 : Code := cl c17_0
theorem w17_1 (s0 s1 s2 s3 s4 s5 s6 s7 s8 s9 s10 s11 s12 s13 : AV) (n : Nat) (h : Heap) (Q : Qt) : awp X n c17_1 Q ((s0 :: s1 :: s2 :: s3 :: s4 :: s5 :: s6 :: s7 :: s8 :: s9 :: s10 :: s11 :: s12 :: s13 :: []), h) = (a_mov (.v (.int .u64 0)) h (.c (fun t4 h1 => a_mov (.v (.bool false)) h1 (.c (fun t5 h2 => Q .normal ((s0 :: s1 :: s2 :: s3 :: t4 :: t5 :: s6 :: s7 :: s8 :: s9 :: s10 :: s11 :: s12 :: s13 :: []), h2)) ())) ())) := by rw [awp_eq]; kernel_rfl
noncomputable def c17_2 : Code := cr c17_0
noncomputable def c17_3 : Code := cl c17_2
theorem w17_3 (s0 s1 s2 s3 s4 s5 s6 s7 s8 s9 s10 s11 s12 s13 : AV) (n : Nat) (h : Heap) (Q : Qt) : awp X n c17_3 Q ((s0 :: s1 :: s2 :: s3 :: s4 :: s5 :: s6 :: s7 :: s8 :: s9 :: s10 :: s11 :: s12 :: s13 :: []), h) = (a_mov s0 h (.c (fun t7 h1 => a_mov s1 h1 (.c (fun t8 h2 => a_bin .add t7 t8 h2 (.c (fun t9 h3 => a_mov t9 h3 (.c (fun t6 h4 => Q .normal ((s0 :: s1 :: s2 :: s3 :: s4 :: s5 :: t6 :: t7 :: t8 :: t9 :: s10 :: s11 :: s12 :: s13 :: []), h4)) ())) ())) ())) ())) := by rw [awp_eq]; kernel_rfl
noncomputable def c17_4 : Code := cr c17_2
noncomputable def c17_5 : Code := cl c17_4
noncomputable def c17_6 : Code := cl c17_5
theorem w17_6 (s0 s1 s2 s3 s4 s5 s6 s7 s8 s9 s10 s11 s12 s13 : AV) (n : Nat) (h : Heap) (Q : Qt) : awp X n c17_6 Q ((s0 :: s1 :: s2 :: s3 :: s4 :: s5 :: s6 :: s7 :: s8 :: s9 :: s10 :: s11 :: s12 :: s13 :: []), h) = (a_mov s6 h (.c (fun t10 h1 => a_mov s0 h1 (.c (fun t11 h2 => a_bin .lss t10 t11 h2 (.c (fun t12 h3 => Q .normal ((s0 :: s1 :: s2 :: s3 :: s4 :: s5 :: s6 :: s7 :: s8 :: s9 :: t10 :: t11 :: t12 :: s13 :: []), h3)) ())) ())) ())) := by rw [awp_eq]; kernel_rfl
noncomputable def c17_7 : Code := cr c17_5
noncomputable def c17_8 : Code := cl c17_7
noncomputable def c17_9 : Code := cl c17_8
theorem w17_9 (s0 s1 s2 s3 s4 s5 s6 s7 s8 s9 s10 s11 s12 s13 : AV) (n : Nat) (h : Heap) (Q : Qt) : awp X n c17_9 Q ((s0 :: s1 :: s2 :: s3 :: s4 :: s5 :: s6 :: s7 :: s8 :: s9 :: s10 :: s11 :: s12 :: s13 :: []), h) = (a_mov (.v (.int .u64 0)) h (.c (fun t4 h1 => a_mov (.v (.bool false)) h1 (.c (fun t5 h2 => Q .normal ((s0 :: s1 :: s2 :: s3 :: t4 :: t5 :: s6 :: s7 :: s8 :: s9 :: s10 :: s11 :: s12 :: s13 :: []), h2)) ())) ())) := by rw [awp_eq]; kernel_rfl
noncomputable def c17_10 : Code := cr c17_8
theorem w17_10 (n : Nat) (Q : Qt) (st : St) : awp X n c17_10 Q st = Q .ret st := by rw [awp_eq]; kernel_rfl
theorem w17_8 (n : Nat) (Q : Qt) (st : St) : awp X n c17_8 Q st = awp X n c17_9 (thenQ (awp X n c17_10 Q) Q) st := by rw [awp_eq]; kernel_rfl
noncomputable def c17_11 : Code := cr c17_7
theorem w17_11 (n : Nat) (Q : Qt) (st : St) : awp X n c17_11 Q st = Q .normal st := by rw [awp_eq]; kernel_rfl
theorem w17_7 (s0 s1 s2 s3 s4 s5 s6 s7 s8 s9 s10 s11 s12 s13 : AV) (n : Nat) (h : Heap) (Q : Qt) : awp X n c17_7 Q ((s0 :: s1 :: s2 :: s3 :: s4 :: s5 :: s6 :: s7 :: s8 :: s9 :: s10 :: s11 :: s12 :: s13 :: []), h) = a_cond s12 (awp X n c17_8 Q ((s0 :: s1 :: s2 :: s3 :: s4 :: s5 :: s6 :: s7 :: s8 :: s9 :: s10 :: s11 :: s12 :: s13 :: []), h)) (awp X n c17_11 Q ((s0 :: s1 :: s2 :: s3 :: s4 :: s5 :: s6 :: s7 :: s8 :: s9 :: s10 :: s11 :: s12 :: s13 :: []), h)) := by rw [awp_eq]; kernel_rfl
theorem w17_5 (n : Nat) (Q : Qt) (st : St) : awp X n c17_5 Q st = awp X n c17_6 (thenQ (awp X n c17_7 Q) Q) st := by rw [awp_eq]; kernel_rfl
noncomputable def c17_12 : Code := cr c17_4
noncomputable def c17_13 : Code := cl c17_12
theorem w17_13 (s0 s1 s2 s3 s4 s5 s6 s7 s8 s9 s10 s11 s12 s13 : AV) (n : Nat) (h : Heap) (Q : Qt) : awp X n c17_13 Q ((s0 :: s1 :: s2 :: s3 :: s4 :: s5 :: s6 :: s7 :: s8 :: s9 :: s10 :: s11 :: s12 :: s13 :: []), h) = (a_mov s6 h (.c (fun t13 h1 => a_mov t13 h1 (.c (fun t4 h2 => a_mov (.v (.bool true)) h2 (.c (fun t5 h3 => Q .normal ((s0 :: s1 :: s2 :: s3 :: t4 :: t5 :: s6 :: s7 :: s8 :: s9 :: s10 :: s11 :: s12 :: t13 :: []), h3)) ())) ())) ())) := by rw [awp_eq]; kernel_rfl
noncomputable def c17_14 : Code := cr c17_12
theorem w17_14 (n : Nat) (Q : Qt) (st : St) : awp X n c17_14 Q st = Q .ret st := by rw [awp_eq]; kernel_rfl
theorem w17_12 (n : Nat) (Q : Qt) (st : St) : awp X n c17_12 Q st = awp X n c17_13 (thenQ (awp X n c17_14 Q) Q) st := by rw [awp_eq]; kernel_rfl
theorem w17_4 (n : Nat) (Q : Qt) (st : St) : awp X n c17_4 Q st = awp X n c17_5 (thenQ (awp X n c17_12 Q) Q) st := by rw [awp_eq]; kernel_rfl
theorem w17_2 (n : Nat) (Q : Qt) (st : St) : awp X n c17_2 Q st = awp X n c17_3 (thenQ (awp X n c17_4 Q) Q) st := by rw [awp_eq]; kernel_rfl
theorem w17_0 (n : Nat) (Q : Qt) (st : St) : awp X n c17_0 Q st = awp X n c17_1 (thenQ (awp X n c17_2 Q) Q) st := by rw [awp_eq]; kernel_rfl
theorem q17_ret (s0 s1 s2 s3 s4 s5 s6 s7 s8 s9 s10 s11 s12 s13 : AV) (h : Heap) (K : Kt) : retQ X Try.f17 K .ret ((s0 :: s1 :: s2 :: s3 :: s4 :: s5 :: s6 :: s7 :: s8 :: s9 :: s10 :: s11 :: s12 :: s13 :: []), h) = (K.K (.t [s4, s5]) h) := by kernel_rfl
theorem q17_normal (s0 s1 s2 s3 s4 s5 s6 s7 s8 s9 s10 s11 s12 s13 : AV) (h : Heap) (K : Kt) : retQ X Try.f17 K .normal ((s0 :: s1 :: s2 :: s3 :: s4 :: s5 :: s6 :: s7 :: s8 :: s9 :: s10 :: s11 :: s12 :: s13 :: []), h) = (K.K (.t [s4, s5]) h) := by kernel_rfl
theorem i17 (a0 a1 : AV) (h : Heap) (K : Kt) (H : awp X h.length c17_0 (retQ X Try.f17 K) ((a0 :: a1 :: .bad :: .bad :: .bad :: .bad :: .bad :: .bad :: .bad :: .bad :: .bad :: .bad :: .bad :: .bad :: []), h)) : ACall X 17 [a0, a1] h K := acall_intro (fn := Try.f17) (by kernel_rfl) (by kernel_rfl) (by kernel_rfl) H
/-! function 18: sindri/cursor.Within -/
noncomputable def c18_0 : Code := bodyOf Try.f18
noncomputable def c18_1 : Code := cl c18_0
theorem w18_1 (s0 s1 s2 s3 s4 s5 s6 s7 s8 s9 s10 s11 s12 s13 s14 s15 s16 : AV) (n : Nat) (h : Heap) (Q : Qt) : awp X n c18_1 Q ((s0 :: s1 :: s2 :: s3 :: s4 :: s5 :: s6 :: s7 :: s8 :: s9 :: s10 :: s11 :: s12 :: s13 :: s14 :: s15 :: s16 :: []), h) = (a_mov (.v (.bool false)) h (.c (fun t6 h1 => Q .normal ((s0 :: s1 :: s2 :: s3 :: s4 :: s5 :: t6 :: s7 :: s8 :: s9 :: s10 :: s11 :: s12 :: s13 :: s14 :: s15 :: s16 :: []), h1)) ())) := by rw [awp_eq]; kernel_rfl
noncomputable def c18_2 : Code := cr c18_0
noncomputable def c18_3 : Code := cl c18_2
theorem w18_3 (s0 s1 s2 s3 s4 s5 s6 s7 s8 s9 s10 s11 s12 s13 s14 s15 s16 : AV) (n : Nat) (h : Heap) (Q : Qt) : awp X n c18_3 Q ((s0 :: s1 :: s2 :: s3 :: s4 :: s5 :: s6 :: s7 :: s8 :: s9 :: s10 :: s11 :: s12 :: s13 :: s14 :: s15 :: s16 :: []), h) = (a_mov s1 h (.c (fun t7 h1 => a_mov s2 h1 (.c (fun t8 h2 => a_bin .leq t7 t8 h2 (.c (fun t9 h3 => a_mov t9 h3 (.c (fun t10 h4 => a_on t10 true (fun k => a_mov s0 h4 k) h4 (.c (fun t11 h5 => a_on t10 true (fun k => a_mov s2 h5 k) h5 (.c (fun t12 h6 => a_on t10 true (fun k => a_mov s1 h6 k) h6 (.c (fun t13 h7 => a_on t10 true (fun k => a_bin .sub t12 t13 h7 k) h7 (.c (fun t14 h8 => a_on t10 true (fun k => a_bin .leq t11 t14 h8 k) h8 (.c (fun t15 h9 => a_pick t10 t15 (.v (.bool false)) h9 (.c (fun t16 h10 => a_mov t16 h10 (.c (fun t6 h11 => Q .normal ((s0 :: s1 :: s2 :: s3 :: s4 :: s5 :: t6 :: t7 :: t8 :: t9 :: t10 :: t11 :: t12 :: t13 :: t14 :: t15 :: t16 :: []), h11)) ())) ())) ())) ())) ())) ())) ())) ())) ())) ())) ())) := by rw [awp_eq]; kernel_rfl
noncomputable def c18_4 : Code := cr c18_2
theorem w18_4 (n : Nat) (Q : Qt) (st : St) : awp X n c18_4 Q st = Q .ret st := by rw [awp_eq]; kernel_rfl
theorem w18_2 (n : Nat) (Q : Qt) (st : St) : awp X n c18_2 Q st = awp X n c18_3 (thenQ (awp X n c18_4 Q) Q) st := by rw [awp_eq]; kernel_rfl
theorem w18_0 (n : Nat) (Q : Qt) (st : St) : awp X n c18_0 Q st = awp X n c18_1 (thenQ (awp X n c18_2 Q) Q) st := by rw [awp_eq]; kernel_rfl
theorem q18_ret (s0 s1 s2 s3 s4 s5 s6 s7 s8 s9 s10 s11 s12 s13 s14 s15 s16 : AV) (h : Heap) (K : Kt) : retQ X Try.f18 K .ret ((s0 :: s1 :: s2 :: s3 :: s4 :: s5 :: s6 :: s7 :: s8 :: s9 :: s10 :: s11 :: s12 :: s13 :: s14 :: s15 :: s16 :: []), h) = (K.K s6 h) := by kernel_rfl
theorem q18_normal (s0 s1 s2 s3 s4 s5 s6 s7 s8 s9 s10 s11 s12 s13 s14 s15 s16 : AV) (h : Heap) (K : Kt) : retQ X Try.f18 K .normal ((s0 :: s1 :: s2 :: s3 :: s4 :: s5 :: s6 :: s7 :: s8 :: s9 :: s10 :: s11 :: s12 :: s13 :: s14 :: s15 :: s16 :: []), h) = (K.K s6 h) := by kernel_rfl
theorem i18 (a0 a1 a2 : AV) (h : Heap) (K : Kt) (H : awp X h.length c18_0 (retQ X Try.f18 K) ((a0 :: a1 :: a2 :: .bad :: .bad :: .bad :: .bad :: .bad :: .bad :: .bad :: .bad :: .bad :: .bad :: .bad :: .bad :: .bad :: .bad :: []), h)) : ACall X 18 [a0, a1, a2] h K := acall_intro (fn := Try.f18) (by kernel_rfl) (by kernel_rfl) (by kernel_rfl) H
/-! function 19: sindri/sindriref01.Within -/
noncomputable def c19_0 : Code := bodyOf Try.f19
noncomputable def c19_1 : Code := cl c19_0
theorem w19_1 (s0 s1 s2 s3 s4 s5 s6 s7 s8 s9 s10 s11 s12 s13 s14 s15 s16 s17 s18 s19 s20 : AV) (n : Nat) (h : Heap) (Q : Qt) : awp X n c19_1 Q ((s0 :: s1 :: s2 :: s3 :: s4 :: s5 :: s6 :: s7 :: s8 :: s9 :: s10 :: s11 :: s12 :: s13 :: s14 :: s15 :: s16 :: s17 :: s18 :: s19 :: s20 :: []), h) = (a_mov (.v (.bool false)) h (.c (fun t6 h1 => Q .normal ((s0 :: s1 :: s2 :: s3 :: s4 :: s5 :: t6 :: s7 :: s8 :: s9 :: s10 :: s11 :: s12 :: s13 :: s14 :: s15 :: s16 :: s17 :: s18 :: s19 :: s20 :: []), h1)) ())) := by rw [awp_eq]; kernel_rfl
noncomputable def c19_2 : Code := cr c19_0
noncomputable def c19_3 : Code := cl c19_2
theorem w19_3 (s0 s1 s2 s3 s4 s5 s6 s7 s8 s9 s10 s11 s12 s13 s14 s15 s16 s17 s18 s19 s20 : AV) (n : Nat) (h : Heap) (Q : Qt) : awp X n c19_3 Q ((s0 :: s1 :: s2 :: s3 :: s4 :: s5 :: s6 :: s7 :: s8 :: s9 :: s10 :: s11 :: s12 :: s13 :: s14 :: s15 :: s16 :: s17 :: s18 :: s19 :: s20 :: []), h) = (a_mov s0 h (.c (fun t10 h1 => a_mov s1 h1 (.c (fun t11 h2 => ACall X 17 [t10, t11] h2 (.c (fun t12 h3 => a_mov t12 h3 (.c (fun t9 h4 => a_ext 0 t9 h4 (.c (fun t13 h5 => a_ext 1 t9 h5 (.c (fun t14 h6 => a_mov t13 h6 (.c (fun t7 h7 => a_mov t14 h7 (.c (fun t8 h8 => Q .normal ((s0 :: s1 :: s2 :: s3 :: s4 :: s5 :: s6 :: t7 :: t8 :: t9 :: t10 :: t11 :: t12 :: t13 :: t14 :: s15 :: s16 :: s17 :: s18 :: s19 :: s20 :: []), h8)) ())) ())) ())) ())) ())) ())) ())) ())) := by rw [awp_eq]; kernel_rfl
noncomputable def c19_4 : Code := cr c19_2
noncomputable def c19_5 : Code := cl c19_4
theorem w19_5 (s0 s1 s2 s3 s4 s5 s6 s7 s8 s9 s10 s11 s12 s13 s14 s15 s16 s17 s18 s19 s20 : AV) (n : Nat) (h : Heap) (Q : Qt) : awp X n c19_5 Q ((s0 :: s1 :: s2 :: s3 :: s4 :: s5 :: s6 :: s7 :: s8 :: s9 :: s10 :: s11 :: s12 :: s13 :: s14 :: s15 :: s16 :: s17 :: s18 :: s19 :: s20 :: []), h) = (a_mov s8 h (.c (fun t15 h1 => a_mov t15 h1 (.c (fun t16 h2 => a_on t16 true (fun k => a_mov s7 h2 k) h2 (.c (fun t17 h3 => a_on t16 true (fun k => a_mov s2 h3 k) h3 (.c (fun t18 h4 => a_on t16 true (fun k => a_bin .leq t17 t18 h4 k) h4 (.c (fun t19 h5 => a_pick t16 t19 (.v (.bool false)) h5 (.c (fun t20 h6 => a_mov t20 h6 (.c (fun t6 h7 => Q .normal ((s0 :: s1 :: s2 :: s3 :: s4 :: s5 :: t6 :: s7 :: s8 :: s9 :: s10 :: s11 :: s12 :: s13 :: s14 :: t15 :: t16 :: t17 :: t18 :: t19 :: t20 :: []), h7)) ())) ())) ())) ())) ())) ())) ())) := by rw [awp_eq]; kernel_rfl
noncomputable def c19_6 : Code := cr c19_4
theorem w19_6 (n : Nat) (Q : Qt) (st : St) : awp X n c19_6 Q st = Q .ret st := by rw [awp_eq]; kernel_rfl
theorem w19_4 (n : Nat) (Q : Qt) (st : St) : awp X n c19_4 Q st = awp X n c19_5 (thenQ (awp X n c19_6 Q) Q) st := by rw [awp_eq]; kernel_rfl
theorem w19_2 (n : Nat) (Q : Qt) (st : St) : awp X n c19_2 Q st = awp X n c19_3 (thenQ (awp X n c19_4 Q) Q) st := by rw [awp_eq]; kernel_rfl
theorem w19_0 (n : Nat) (Q : Qt) (st : St) : awp X n c19_0 Q st = awp X n c19_1 (thenQ (awp X n c19_2 Q) Q) st := by rw [awp_eq]; kernel_rfl
theorem q19_ret (s0 s1 s2 s3 s4 s5 s6 s7 s8 s9 s10 s11 s12 s13 s14 s15 s16 s17 s18 s19 s20 : AV) (h : Heap) (K : Kt) : retQ X Try.f19 K .ret ((s0 :: s1 :: s2 :: s3 :: s4 :: s5 :: s6 :: s7 :: s8 :: s9 :: s10 :: s11 :: s12 :: s13 :: s14 :: s15 :: s16 :: s17 :: s18 :: s19 :: s20 :: []), h) = (K.K s6 h) := by kernel_rfl
theorem q19_normal (s0 s1 s2 s3 s4 s5 s6 s7 s8 s9 s10 s11 s12 s13 s14 s15 s16 s17 s18 s19 s20 : AV) (h : Heap) (K : Kt) : retQ X Try.f19 K .normal ((s0 :: s1 :: s2 :: s3 :: s4 :: s5 :: s6 :: s7 :: s8 :: s9 :: s10 :: s11 :: s12 :: s13 :: s14 :: s15 :: s16 :: s17 :: s18 :: s19 :: s20 :: []), h) = (K.K s6 h) := by kernel_rfl
theorem i19 (a0 a1 a2 : AV) (h : Heap) (K : Kt) (H : awp X h.length c19_0 (retQ X Try.f19 K) ((a0 :: a1 :: a2 :: .bad :: .bad :: .bad :: .bad :: .bad :: .bad :: .bad :: .bad :: .bad :: .bad :: .bad :: .bad :: .bad :: .bad :: .bad :: .bad :: .bad :: .bad :: []), h)) : ACall X 19 [a0, a1, a2] h K := acall_intro (fn := Try.f19) (by kernel_rfl) (by kernel_rfl) (by kernel_rfl) H
/-! function 20: (*sindri/cursor.Cursor).Seek -/
noncomputable def c20_0 : Code := bodyOf Try.f20
noncomputable def c20_1 : Code := cl c20_0
noncomputable def c20_2 : Code := cl c20_1
theorem w20_2 (s0 s1 s2 s3 s4 s5 s6 s7 s8 s9 s10 s11 s12 s13 s14 s15 s16 s17 s18 s19 s20 s21 s22 s23 : AV) (n : Nat) (h : Heap) (Q : Qt) : awp X n c20_2 Q ((s0 :: s1 :: s2 :: s3 :: s4 :: s5 :: s6 :: s7 :: s8 :: s9 :: s10 :: s11 :: s12 :: s13 :: s14 :: s15 :: s16 :: s17 :: s18 :: s19 :: s20 :: s21 :: s22 :: s23 :: []), h) = (a_mov s0 h (.c (fun t10 h1 => ACall X 27 [t10] h1 (.c (fun t11 h2 => a_bin .neq t11 (.v (.int .i64 0)) h2 (.c (fun t12 h3 => a_mov t12 h3 (.c (fun t9 h4 => Q .normal ((s0 :: s1 :: s2 :: s3 :: s4 :: s5 :: s6 :: s7 :: s8 :: t9 :: t10 :: t11 :: t12 :: s13 :: s14 :: s15 :: s16 :: s17 :: s18 :: s19 :: s20 :: s21 :: s22 :: s23 :: []), h4)) ())) ())) ())) ())) := by rw [awp_eq]; kernel_rfl
noncomputable def c20_3 : Code := cr c20_1
noncomputable def c20_4 : Code := cl c20_3
theorem w20_4 (n : Nat) (Q : Qt) (st : St) : awp X n c20_4 Q st = Q .normal st := by rw [awp_eq]; kernel_rfl
noncomputable def c20_5 : Code := cr c20_3
noncomputable def c20_6 : Code := cl c20_5
theorem w20_6 (s0 s1 s2 s3 s4 s5 s6 s7 s8 s9 s10 s11 s12 s13 s14 s15 s16 s17 s18 s19 s20 s21 s22 s23 : AV) (n : Nat) (h : Heap) (Q : Qt) : awp X n c20_6 Q ((s0 :: s1 :: s2 :: s3 :: s4 :: s5 :: s6 :: s7 :: s8 :: s9 :: s10 :: s11 :: s12 :: s13 :: s14 :: s15 :: s16 :: s17 :: s18 :: s19 :: s20 :: s21 :: s22 :: s23 :: []), h) = (a_mov s1 h (.c (fun t14 h1 => a_mov s0 h1 (.c (fun t15 h2 => a_nilc t15 h2 (.c (fun t16 h3 => a_fa 0 t16 h3 (.c (fun t17 h4 => a_load 1 false t17 h4 (.c (fun t18 h5 => a_len t18 h5 (.c (fun t19 h6 => a_cint .u64 t19 h6 (.c (fun t20 h7 => a_bin .gtr t14 t20 h7 (.c (fun t21 h8 => a_mov t21 h8 (.c (fun t13 h9 => Q .normal ((s0 :: s1 :: s2 :: s3 :: s4 :: s5 :: s6 :: s7 :: s8 :: s9 :: s10 :: s11 :: s12 :: t13 :: t14 :: t15 :: t16 :: t17 :: t18 :: t19 :: t20 :: t21 :: s22 :: s23 :: []), h9)) ())) ())) ())) ())) ())) ())) ())) ())) ())) := by rw [awp_eq]; kernel_rfl
noncomputable def c20_7 : Code := cr c20_5
noncomputable def c20_8 : Code := cl c20_7
theorem w20_8 (s0 s1 s2 s3 s4 s5 s6 s7 s8 s9 s10 s11 s12 s13 s14 s15 s16 s17 s18 s19 s20 s21 s22 s23 : AV) (n : Nat) (h : Heap) (Q : Qt) : awp X n c20_8 Q ((s0 :: s1 :: s2 :: s3 :: s4 :: s5 :: s6 :: s7 :: s8 :: s9 :: s10 :: s11 :: s12 :: s13 :: s14 :: s15 :: s16 :: s17 :: s18 :: s19 :: s20 :: s21 :: s22 :: s23 :: []), h) = (a_mov s0 h (.c (fun t22 h1 => ACall X 35 [t22, (.v (.int .i64 10))] h1 (.c (fun t23 h2 => Q .normal ((s0 :: s1 :: s2 :: s3 :: s4 :: s5 :: s6 :: s7 :: s8 :: s9 :: s10 :: s11 :: s12 :: s13 :: s14 :: s15 :: s16 :: s17 :: s18 :: s19 :: s20 :: s21 :: t22 :: t23 :: []), h2)) ())) ())) := by rw [awp_eq]; kernel_rfl
noncomputable def c20_9 : Code := cr c20_7
theorem w20_9 (s0 s1 s2 s3 s4 s5 s6 s7 s8 s9 s10 s11 s12 s13 s14 s15 s16 s17 s18 s19 s20 s21 s22 s23 : AV) (n : Nat) (h : Heap) (Q : Qt) : awp X n c20_9 Q ((s0 :: s1 :: s2 :: s3 :: s4 :: s5 :: s6 :: s7 :: s8 :: s9 :: s10 :: s11 :: s12 :: s13 :: s14 :: s15 :: s16 :: s17 :: s18 :: s19 :: s20 :: s21 :: s22 :: s23 :: []), h) = (a_mov s0 h (.c (fun t4 h1 => a_mov s1 h1 (.c (fun t5 h2 => a_cint .i64 t5 h2 (.c (fun t6 h3 => a_nilc t4 h3 (.c (fun t7 h4 => a_fa 1 t7 h4 (.c (fun t8 h5 => a_store 1 t8 t6 h5 (.c (fun _v5 h6 => Q .normal ((s0 :: s1 :: s2 :: s3 :: t4 :: t5 :: t6 :: t7 :: t8 :: s9 :: s10 :: s11 :: s12 :: s13 :: s14 :: s15 :: s16 :: s17 :: s18 :: s19 :: s20 :: s21 :: s22 :: s23 :: []), h6)) ())) ())) ())) ())) ())) ())) := by rw [awp_eq]; kernel_rfl
theorem w20_7 (s0 s1 s2 s3 s4 s5 s6 s7 s8 s9 s10 s11 s12 s13 s14 s15 s16 s17 s18 s19 s20 s21 s22 s23 : AV) (n : Nat) (h : Heap) (Q : Qt) : awp X n c20_7 Q ((s0 :: s1 :: s2 :: s3 :: s4 :: s5 :: s6 :: s7 :: s8 :: s9 :: s10 :: s11 :: s12 :: s13 :: s14 :: s15 :: s16 :: s17 :: s18 :: s19 :: s20 :: s21 :: s22 :: s23 :: []), h) = a_cond s13 (awp X n c20_8 Q ((s0 :: s1 :: s2 :: s3 :: s4 :: s5 :: s6 :: s7 :: s8 :: s9 :: s10 :: s11 :: s12 :: s13 :: s14 :: s15 :: s16 :: s17 :: s18 :: s19 :: s20 :: s21 :: s22 :: s23 :: []), h)) (awp X n c20_9 Q ((s0 :: s1 :: s2 :: s3 :: s4 :: s5 :: s6 :: s7 :: s8 :: s9 :: s10 :: s11 :: s12 :: s13 :: s14 :: s15 :: s16 :: s17 :: s18 :: s19 :: s20 :: s21 :: s22 :: s23 :: []), h)) := by rw [awp_eq]; kernel_rfl
theorem w20_5 (n : Nat) (Q : Qt) (st : St) : awp X n c20_5 Q st = awp X n c20_6 (thenQ (awp X n c20_7 Q) Q) st := by rw [awp_eq]; kernel_rfl
theorem w20_3 (s0 s1 s2 s3 s4 s5 s6 s7 s8 s9 s10 s11 s12 s13 s14 s15 s16 s17 s18 s19 s20 s21 s22 s23 : AV) (n : Nat) (h : Heap) (Q : Qt) : awp X n c20_3 Q ((s0 :: s1 :: s2 :: s3 :: s4 :: s5 :: s6 :: s7 :: s8 :: s9 :: s10 :: s11 :: s12 :: s13 :: s14 :: s15 :: s16 :: s17 :: s18 :: s19 :: s20 :: s21 :: s22 :: s23 :: []), h) = a_cond s9 (awp X n c20_4 Q ((s0 :: s1 :: s2 :: s3 :: s4 :: s5 :: s6 :: s7 :: s8 :: s9 :: s10 :: s11 :: s12 :: s13 :: s14 :: s15 :: s16 :: s17 :: s18 :: s19 :: s20 :: s21 :: s22 :: s23 :: []), h)) (awp X n c20_5 Q ((s0 :: s1 :: s2 :: s3 :: s4 :: s5 :: s6 :: s7 :: s8 :: s9 :: s10 :: s11 :: s12 :: s13 :: s14 :: s15 :: s16 :: s17 :: s18 :: s19 :: s20 :: s21 :: s22 :: s23 :: []), h)) := by rw [awp_eq]; kernel_rfl
theorem w20_1 (n : Nat) (Q : Qt) (st : St) : awp X n c20_1 Q st = awp X n c20_2 (thenQ (awp X n c20_3 Q) Q) st := by rw [awp_eq]; kernel_rfl
theorem w20_0 (n : Nat) (Q : Qt) (st : St) : awp X n c20_0 Q st = awp X n c20_1 (blockQ 0 Q) st := by rw [awp_eq]; kernel_rfl
theorem q20_ret (s0 s1 s2 s3 s4 s5 s6 s7 s8 s9 s10 s11 s12 s13 s14 s15 s16 s17 s18 s19 s20 s21 s22 s23 : AV) (h : Heap) (K : Kt) : retQ X Try.f20 K .ret ((s0 :: s1 :: s2 :: s3 :: s4 :: s5 :: s6 :: s7 :: s8 :: s9 :: s10 :: s11 :: s12 :: s13 :: s14 :: s15 :: s16 :: s17 :: s18 :: s19 :: s20 :: s21 :: s22 :: s23 :: []), h) = (K.K (.t []) h) := by kernel_rfl
theorem q20_normal (s0 s1 s2 s3 s4 s5 s6 s7 s8 s9 s10 s11 s12 s13 s14 s15 s16 s17 s18 s19 s20 s21 s22 s23 : AV) (h : Heap) (K : Kt) : retQ X Try.f20 K .normal ((s0 :: s1 :: s2 :: s3 :: s4 :: s5 :: s6 :: s7 :: s8 :: s9 :: s10 :: s11 :: s12 :: s13 :: s14 :: s15 :: s16 :: s17 :: s18 :: s19 :: s20 :: s21 :: s22 :: s23 :: []), h) = (K.K (.t []) h) := by kernel_rfl
theorem i20 (a0 a1 : AV) (h : Heap) (K : Kt) (H : awp X h.length c20_0 (retQ X Try.f20 K) ((a0 :: a1 :: .bad :: .bad :: .bad :: .bad :: .bad :: .bad :: .bad :: .bad :: .bad :: .bad :: .bad :: .bad :: .bad :: .bad :: .bad :: .bad :: .bad :: .bad :: .bad :: .bad :: .bad :: .bad :: []), h)) : ACall X 20 [a0, a1] h K := acall_intro (fn := Try.f20) (by kernel_rfl) (by kernel_rfl) (by kernel_rfl) H
/-! function 21: (*sindri/cursor.Cursor).Bytes -/
noncomputable def c21_0 : Code := bodyOf Try.f21
noncomputable def c21_1 : Code := cl c21_0
theorem w21_1 (s0 s1 s2 s3 s4 s5 s6 s7 s8 s9 s10 s11 s12 s13 s14 : AV) (n : Nat) (h : Heap) (Q : Qt) : awp X n c21_1 Q ((s0 :: s1 :: s2 :: s3 :: s4 :: s5 :: s6 :: s7 :: s8 :: s9 :: s10 :: s11 :: s12 :: s13 :: s14 :: []), h) = (a_mov (.v (.slice none 0 0)) h (.c (fun t4 h1 => Q .normal ((s0 :: s1 :: s2 :: s3 :: t4 :: s5 :: s6 :: s7 :: s8 :: s9 :: s10 :: s11 :: s12 :: s13 :: s14 :: []), h1)) ())) := by rw [awp_eq]; kernel_rfl
noncomputable def c21_2 : Code := cr c21_0
noncomputable def c21_3 : Code := cl c21_2
theorem w21_3 (s0 s1 s2 s3 s4 s5 s6 s7 s8 s9 s10 s11 s12 s13 s14 : AV) (n : Nat) (h : Heap) (Q : Qt) : awp X n c21_3 Q ((s0 :: s1 :: s2 :: s3 :: s4 :: s5 :: s6 :: s7 :: s8 :: s9 :: s10 :: s11 :: s12 :: s13 :: s14 :: []), h) = (a_mov s0 h (.c (fun t6 h1 => a_mov s1 h1 (.c (fun t7 h2 => ACall X 34 [t6, t7] h2 (.c (fun t8 h3 => a_mov t8 h3 (.c (fun t5 h4 => Q .normal ((s0 :: s1 :: s2 :: s3 :: s4 :: t5 :: t6 :: t7 :: t8 :: s9 :: s10 :: s11 :: s12 :: s13 :: s14 :: []), h4)) ())) ())) ())) ())) := by rw [awp_eq]; kernel_rfl
noncomputable def c21_4 : Code := cr c21_2
noncomputable def c21_5 : Code := cl c21_4
noncomputable def c21_6 : Code := cl c21_5
theorem w21_6 (s0 s1 s2 s3 s4 s5 s6 s7 s8 s9 s10 s11 s12 s13 s14 : AV) (n : Nat) (h : Heap) (Q : Qt) : awp X n c21_6 Q ((s0 :: s1 :: s2 :: s3 :: s4 :: s5 :: s6 :: s7 :: s8 :: s9 :: s10 :: s11 :: s12 :: s13 :: s14 :: []), h) = (a_mov s5 h (.c (fun t9 h1 => a_len t9 h1 (.c (fun t10 h2 => a_bin .eql t10 (.v (.int .i64 0)) h2 (.c (fun t11 h3 => Q .normal ((s0 :: s1 :: s2 :: s3 :: s4 :: s5 :: s6 :: s7 :: s8 :: t9 :: t10 :: t11 :: s12 :: s13 :: s14 :: []), h3)) ())) ())) ())) := by rw [awp_eq]; kernel_rfl
noncomputable def c21_7 : Code := cr c21_5
noncomputable def c21_8 : Code := cl c21_7
noncomputable def c21_9 : Code := cl c21_8
theorem w21_9 (s0 s1 s2 s3 s4 s5 s6 s7 s8 s9 s10 s11 s12 s13 s14 : AV) (n : Nat) (h : Heap) (Q : Qt) : awp X n c21_9 Q ((s0 :: s1 :: s2 :: s3 :: s4 :: s5 :: s6 :: s7 :: s8 :: s9 :: s10 :: s11 :: s12 :: s13 :: s14 :: []), h) = (a_mov (.v (.slice none 0 0)) h (.c (fun t4 h1 => Q .normal ((s0 :: s1 :: s2 :: s3 :: t4 :: s5 :: s6 :: s7 :: s8 :: s9 :: s10 :: s11 :: s12 :: s13 :: s14 :: []), h1)) ())) := by rw [awp_eq]; kernel_rfl
noncomputable def c21_10 : Code := cr c21_8
theorem w21_10 (n : Nat) (Q : Qt) (st : St) : awp X n c21_10 Q st = Q .ret st := by rw [awp_eq]; kernel_rfl
theorem w21_8 (n : Nat) (Q : Qt) (st : St) : awp X n c21_8 Q st = awp X n c21_9 (thenQ (awp X n c21_10 Q) Q) st := by rw [awp_eq]; kernel_rfl
noncomputable def c21_11 : Code := cr c21_7
theorem w21_11 (n : Nat) (Q : Qt) (st : St) : awp X n c21_11 Q st = Q .normal st := by rw [awp_eq]; kernel_rfl
theorem w21_7 (s0 s1 s2 s3 s4 s5 s6 s7 s8 s9 s10 s11 s12 s13 s14 : AV) (n : Nat) (h : Heap) (Q : Qt) : awp X n c21_7 Q ((s0 :: s1 :: s2 :: s3 :: s4 :: s5 :: s6 :: s7 :: s8 :: s9 :: s10 :: s11 :: s12 :: s13 :: s14 :: []), h) = a_cond s11 (awp X n c21_8 Q ((s0 :: s1 :: s2 :: s3 :: s4 :: s5 :: s6 :: s7 :: s8 :: s9 :: s10 :: s11 :: s12 :: s13 :: s14 :: []), h)) (awp X n c21_11 Q ((s0 :: s1 :: s2 :: s3 :: s4 :: s5 :: s6 :: s7 :: s8 :: s9 :: s10 :: s11 :: s12 :: s13 :: s14 :: []), h)) := by rw [awp_eq]; kernel_rfl
theorem w21_5 (n : Nat) (Q : Qt) (st : St) : awp X n c21_5 Q st = awp X n c21_6 (thenQ (awp X n c21_7 Q) Q) st := by rw [awp_eq]; kernel_rfl
noncomputable def c21_12 : Code := cr c21_4
noncomputable def c21_13 : Code := cl c21_12
theorem w21_13 (s0 s1 s2 s3 s4 s5 s6 s7 s8 s9 s10 s11 s12 s13 s14 : AV) (n : Nat) (h : Heap) (Q : Qt) : awp X n c21_13 Q ((s0 :: s1 :: s2 :: s3 :: s4 :: s5 :: s6 :: s7 :: s8 :: s9 :: s10 :: s11 :: s12 :: s13 :: s14 :: []), h) = (a_lit 1 0 [] [] h (.c (fun t12 h1 => a_mov s5 h1 (.c (fun t13 h2 => a_app 1 1 t12 t13 h2 (.c (fun t14 h3 => a_mov t14 h3 (.c (fun t4 h4 => Q .normal ((s0 :: s1 :: s2 :: s3 :: t4 :: s5 :: s6 :: s7 :: s8 :: s9 :: s10 :: s11 :: t12 :: t13 :: t14 :: []), h4)) ())) ())) ())) ())) := by rw [awp_eq]; kernel_rfl
noncomputable def c21_14 : Code := cr c21_12
theorem w21_14 (n : Nat) (Q : Qt) (st : St) : awp X n c21_14 Q st = Q .ret st := by rw [awp_eq]; kernel_rfl
theorem w21_12 (n : Nat) (Q : Qt) (st : St) : awp X n c21_12 Q st = awp X n c21_13 (thenQ (awp X n c21_14 Q) Q) st := by rw [awp_eq]; kernel_rfl
theorem w21_4 (n : Nat) (Q : Qt) (st : St) : awp X n c21_4 Q st = awp X n c21_5 (thenQ (awp X n c21_12 Q) Q) st := by rw [awp_eq]; kernel_rfl
theorem w21_2 (n : Nat) (Q : Qt) (st : St) : awp X n c21_2 Q st = awp X n c21_3 (thenQ (awp X n c21_4 Q) Q) st := by rw [awp_eq]; kernel_rfl
theorem w21_0 (n : Nat) (Q : Qt) (st : St) : awp X n c21_0 Q st = awp X n c21_1 (thenQ (awp X n c21_2 Q) Q) st := by rw [awp_eq]; kernel_rfl
theorem q21_ret (s0 s1 s2 s3 s4 s5 s6 s7 s8 s9 s10 s11 s12 s13 s14 : AV) (h : Heap) (K : Kt) : retQ X Try.f21 K .ret ((s0 :: s1 :: s2 :: s3 :: s4 :: s5 :: s6 :: s7 :: s8 :: s9 :: s10 :: s11 :: s12 :: s13 :: s14 :: []), h) = (K.K s4 h) := by kernel_rfl
theorem q21_normal (s0 s1 s2 s3 s4 s5 s6 s7 s8 s9 s10 s11 s12 s13 s14 : AV) (h : Heap) (K : Kt) : retQ X Try.f21 K .normal ((s0 :: s1 :: s2 :: s3 :: s4 :: s5 :: s6 :: s7 :: s8 :: s9 :: s10 :: s11 :: s12 :: s13 :: s14 :: []), h) = (K.K s4 h) := by kernel_rfl
theorem i21 (a0 a1 : AV) (h : Heap) (K : Kt) (H : awp X h.length c21_0 (retQ X Try.f21 K) ((a0 :: a1 :: .bad :: .bad :: .bad :: .bad :: .bad :: .bad :: .bad :: .bad :: .bad :: .bad :: .bad :: .bad :: .bad :: []), h)) : ACall X 21 [a0, a1] h K := acall_intro (fn := Try.f21) (by kernel_rfl) (by kernel_rfl) (by kernel_rfl) H
/-! function 22: (*sindri/cursor.Cursor).Sub -/
noncomputable def c22_0 : Code := bodyOf Try.f22
noncomputable def c22_1 : Code := cl c22_0
theorem w22_1 (s0 s1 s2 s3 s4 s5 s6 s7 s8 s9 s10 s11 s12 s13 s14 s15 : AV) (n : Nat) (h : Heap) (Q : Qt) : awp X n c22_1 Q ((s0 :: s1 :: s2 :: s3 :: s4 :: s5 :: s6 :: s7 :: s8 :: s9 :: s10 :: s11 :: s12 :: s13 :: s14 :: s15 :: []), h) = (a_mov (.v (.pointer none)) h (.c (fun t4 h1 => Q .normal ((s0 :: s1 :: s2 :: s3 :: t4 :: s5 :: s6 :: s7 :: s8 :: s9 :: s10 :: s11 :: s12 :: s13 :: s14 :: s15 :: []), h1)) ())) := by rw [awp_eq]; kernel_rfl
noncomputable def c22_2 : Code := cr c22_0
noncomputable def c22_3 : Code := cl c22_2
theorem w22_3 (s0 s1 s2 s3 s4 s5 s6 s7 s8 s9 s10 s11 s12 s13 s14 s15 : AV) (n : Nat) (h : Heap) (Q : Qt) : awp X n c22_3 Q ((s0 :: s1 :: s2 :: s3 :: s4 :: s5 :: s6 :: s7 :: s8 :: s9 :: s10 :: s11 :: s12 :: s13 :: s14 :: s15 :: []), h) = (a_mov s0 h (.c (fun t6 h1 => a_mov s1 h1 (.c (fun t7 h2 => ACall X 34 [t6, t7] h2 (.c (fun t8 h3 => ACall X 12 [t8] h3 (.c (fun t9 h4 => a_mov t9 h4 (.c (fun t5 h5 => Q .normal ((s0 :: s1 :: s2 :: s3 :: s4 :: t5 :: t6 :: t7 :: t8 :: t9 :: s10 :: s11 :: s12 :: s13 :: s14 :: s15 :: []), h5)) ())) ())) ())) ())) ())) := by rw [awp_eq]; kernel_rfl
noncomputable def c22_4 : Code := cr c22_2
noncomputable def c22_5 : Code := cl c22_4
theorem w22_5 (s0 s1 s2 s3 s4 s5 s6 s7 s8 s9 s10 s11 s12 s13 s14 s15 : AV) (n : Nat) (h : Heap) (Q : Qt) : awp X n c22_5 Q ((s0 :: s1 :: s2 :: s3 :: s4 :: s5 :: s6 :: s7 :: s8 :: s9 :: s10 :: s11 :: s12 :: s13 :: s14 :: s15 :: []), h) = (a_mov s5 h (.c (fun t10 h1 => a_mov s0 h1 (.c (fun t11 h2 => ACall X 27 [t11] h2 (.c (fun t12 h3 => a_nilc t10 h3 (.c (fun t13 h4 => a_fa 3 t13 h4 (.c (fun t14 h5 => a_store 1 t14 t12 h5 (.c (fun _v5 h6 => Q .normal ((s0 :: s1 :: s2 :: s3 :: s4 :: s5 :: s6 :: s7 :: s8 :: s9 :: t10 :: t11 :: t12 :: t13 :: t14 :: s15 :: []), h6)) ())) ())) ())) ())) ())) ())) := by rw [awp_eq]; kernel_rfl
noncomputable def c22_6 : Code := cr c22_4
noncomputable def c22_7 : Code := cl c22_6
theorem w22_7 (s0 s1 s2 s3 s4 s5 s6 s7 s8 s9 s10 s11 s12 s13 s14 s15 : AV) (n : Nat) (h : Heap) (Q : Qt) : awp X n c22_7 Q ((s0 :: s1 :: s2 :: s3 :: s4 :: s5 :: s6 :: s7 :: s8 :: s9 :: s10 :: s11 :: s12 :: s13 :: s14 :: s15 :: []), h) = (a_mov s5 h (.c (fun t15 h1 => a_mov t15 h1 (.c (fun t4 h2 => Q .normal ((s0 :: s1 :: s2 :: s3 :: t4 :: s5 :: s6 :: s7 :: s8 :: s9 :: s10 :: s11 :: s12 :: s13 :: s14 :: t15 :: []), h2)) ())) ())) := by rw [awp_eq]; kernel_rfl
noncomputable def c22_8 : Code := cr c22_6
theorem w22_8 (n : Nat) (Q : Qt) (st : St) : awp X n c22_8 Q st = Q .ret st := by rw [awp_eq]; kernel_rfl
theorem w22_6 (n : Nat) (Q : Qt) (st : St) : awp X n c22_6 Q st = awp X n c22_7 (thenQ (awp X n c22_8 Q) Q) st := by rw [awp_eq]; kernel_rfl
theorem w22_4 (n : Nat) (Q : Qt) (st : St) : awp X n c22_4 Q st = awp X n c22_5 (thenQ (awp X n c22_6 Q) Q) st := by rw [awp_eq]; kernel_rfl
theorem w22_2 (n : Nat) (Q : Qt) (st : St) : awp X n c22_2 Q st = awp X n c22_3 (thenQ (awp X n c22_4 Q) Q) st := by rw [awp_eq]; kernel_rfl
theorem w22_0 (n : Nat) (Q : Qt) (st : St) : awp X n c22_0 Q st = awp X n c22_1 (thenQ (awp X n c22_2 Q) Q) st := by rw [awp_eq]; kernel_rfl
theorem q22_ret (s0 s1 s2 s3 s4 s5 s6 s7 s8 s9 s10 s11 s12 s13 s14 s15 : AV) (h : Heap) (K : Kt) : retQ X Try.f22 K .ret ((s0 :: s1 :: s2 :: s3 :: s4 :: s5 :: s6 :: s7 :: s8 :: s9 :: s10 :: s11 :: s12 :: s13 :: s14 :: s15 :: []), h) = (K.K s4 h) := by kernel_rfl
theorem q22_normal (s0 s1 s2 s3 s4 s5 s6 s7 s8 s9 s10 s11 s12 s13 s14 s15 : AV) (h : Heap) (K : Kt) : retQ X Try.f22 K .normal ((s0 :: s1 :: s2 :: s3 :: s4 :: s5 :: s6 :: s7 :: s8 :: s9 :: s10 :: s11 :: s12 :: s13 :: s14 :: s15 :: []), h) = (K.K s4 h) := by kernel_rfl
theorem i22 (a0 a1 : AV) (h : Heap) (K : Kt) (H : awp X h.length c22_0 (retQ X Try.f22 K) ((a0 :: a1 :: .bad :: .bad :: .bad :: .bad :: .bad :: .bad :: .bad :: .bad :: .bad :: .bad :: .bad :: .bad :: .bad :: .bad :: []), h)) : ACall X 22 [a0, a1] h K := acall_intro (fn := Try.f22) (by kernel_rfl) (by kernel_rfl) (by kernel_rfl) H
/-! function 23: (*sindri/cursor.Cursor).U8 -/
noncomputable def c23_0 : Code := bodyOf Try.f23
noncomputable def c23_1 : Code := cl c23_0
theorem w23_1 (s0 s1 s2 s3 s4 : AV) (n : Nat) (h : Heap) (Q : Qt) : awp X n c23_1 Q ((s0 :: s1 :: s2 :: s3 :: s4 :: []), h) = (a_mov (.v (.int .u64 0)) h (.c (fun t2 h1 => Q .normal ((s0 :: s1 :: t2 :: s3 :: s4 :: []), h1)) ())) := by rw [awp_eq]; kernel_rfl
noncomputable def c23_2 : Code := cr c23_0
noncomputable def c23_3 : Code := cl c23_2
theorem w23_3 (s0 s1 s2 s3 s4 : AV) (n : Nat) (h : Heap) (Q : Qt) : awp X n c23_3 Q ((s0 :: s1 :: s2 :: s3 :: s4 :: []), h) = (a_mov s0 h (.c (fun t3 h1 => ACall X 13 [t3, (.v (.int .i64 1))] h1 (.c (fun t4 h2 => a_mov t4 h2 (.c (fun t2 h3 => Q .normal ((s0 :: s1 :: t2 :: t3 :: t4 :: []), h3)) ())) ())) ())) := by rw [awp_eq]; kernel_rfl
noncomputable def c23_4 : Code := cr c23_2
theorem w23_4 (n : Nat) (Q : Qt) (st : St) : awp X n c23_4 Q st = Q .ret st := by rw [awp_eq]; kernel_rfl
theorem w23_2 (n : Nat) (Q : Qt) (st : St) : awp X n c23_2 Q st = awp X n c23_3 (thenQ (awp X n c23_4 Q) Q) st := by rw [awp_eq]; kernel_rfl
theorem w23_0 (n : Nat) (Q : Qt) (st : St) : awp X n c23_0 Q st = awp X n c23_1 (thenQ (awp X n c23_2 Q) Q) st := by rw [awp_eq]; kernel_rfl
theorem q23_ret (s0 s1 s2 s3 s4 : AV) (h : Heap) (K : Kt) : retQ X Try.f23 K .ret ((s0 :: s1 :: s2 :: s3 :: s4 :: []), h) = (K.K s2 h) := by kernel_rfl
theorem q23_normal (s0 s1 s2 s3 s4 : AV) (h : Heap) (K : Kt) : retQ X Try.f23 K .normal ((s0 :: s1 :: s2 :: s3 :: s4 :: []), h) = (K.K s2 h) := by kernel_rfl
theorem i23 (a0 : AV) (h : Heap) (K : Kt) (H : awp X h.length c23_0 (retQ X Try.f23 K) ((a0 :: .bad :: .bad :: .bad :: .bad :: []), h)) : ACall X 23 [a0] h K := acall_intro (fn := Try.f23) (by kernel_rfl) (by kernel_rfl) (by kernel_rfl) H
/-! function 24: (*sindri/cursor.Cursor).End -/
noncomputable def c24_0 : Code := bodyOf Try.f24
noncomputable def c24_1 : Code := cl c24_0
theorem w24_1 (s0 s1 s2 s3 s4 s5 s6 s7 : AV) (n : Nat) (h : Heap) (Q : Qt) : awp X n c24_1 Q ((s0 :: s1 :: s2 :: s3 :: s4 :: s5 :: s6 :: s7 :: []), h) = (a_mov (.v (.int .i64 0)) h (.c (fun t2 h1 => Q .normal ((s0 :: s1 :: t2 :: s3 :: s4 :: s5 :: s6 :: s7 :: []), h1)) ())) := by rw [awp_eq]; kernel_rfl
noncomputable def c24_2 : Code := cr c24_0
noncomputable def c24_3 : Code := cl c24_2
noncomputable def c24_4 : Code := cl c24_3
theorem w24_4 (s0 s1 s2 s3 s4 s5 s6 s7 : AV) (n : Nat) (h : Heap) (Q : Qt) : awp X n c24_4 Q ((s0 :: s1 :: s2 :: s3 :: s4 :: s5 :: s6 :: s7 :: []), h) = (a_mov s0 h (.c (fun t3 h1 => ACall X 15 [t3] h1 (.c (fun t4 h2 => a_bin .gtr t4 (.v (.int .i64 0)) h2 (.c (fun t5 h3 => Q .normal ((s0 :: s1 :: s2 :: t3 :: t4 :: t5 :: s6 :: s7 :: []), h3)) ())) ())) ())) := by rw [awp_eq]; kernel_rfl
noncomputable def c24_5 : Code := cr c24_3
noncomputable def c24_6 : Code := cl c24_5
noncomputable def c24_7 : Code := cl c24_6
theorem w24_7 (s0 s1 s2 s3 s4 s5 s6 s7 : AV) (n : Nat) (h : Heap) (Q : Qt) : awp X n c24_7 Q ((s0 :: s1 :: s2 :: s3 :: s4 :: s5 :: s6 :: s7 :: []), h) = (a_mov (.v (.int .i64 2)) h (.c (fun t2 h1 => Q .normal ((s0 :: s1 :: t2 :: s3 :: s4 :: s5 :: s6 :: s7 :: []), h1)) ())) := by rw [awp_eq]; kernel_rfl
noncomputable def c24_8 : Code := cr c24_6
theorem w24_8 (n : Nat) (Q : Qt) (st : St) : awp X n c24_8 Q st = Q .ret st := by rw [awp_eq]; kernel_rfl
theorem w24_6 (n : Nat) (Q : Qt) (st : St) : awp X n c24_6 Q st = awp X n c24_7 (thenQ (awp X n c24_8 Q) Q) st := by rw [awp_eq]; kernel_rfl
noncomputable def c24_9 : Code := cr c24_5
theorem w24_9 (n : Nat) (Q : Qt) (st : St) : awp X n c24_9 Q st = Q .normal st := by rw [awp_eq]; kernel_rfl
theorem w24_5 (s0 s1 s2 s3 s4 s5 s6 s7 : AV) (n : Nat) (h : Heap) (Q : Qt) : awp X n c24_5 Q ((s0 :: s1 :: s2 :: s3 :: s4 :: s5 :: s6 :: s7 :: []), h) = a_cond s5 (awp X n c24_6 Q ((s0 :: s1 :: s2 :: s3 :: s4 :: s5 :: s6 :: s7 :: []), h)) (awp X n c24_9 Q ((s0 :: s1 :: s2 :: s3 :: s4 :: s5 :: s6 :: s7 :: []), h)) := by rw [awp_eq]; kernel_rfl
theorem w24_3 (n : Nat) (Q : Qt) (st : St) : awp X n c24_3 Q st = awp X n c24_4 (thenQ (awp X n c24_5 Q) Q) st := by rw [awp_eq]; kernel_rfl
noncomputable def c24_10 : Code := cr c24_2
noncomputable def c24_11 : Code := cl c24_10
theorem w24_11 (s0 s1 s2 s3 s4 s5 s6 s7 : AV) (n : Nat) (h : Heap) (Q : Qt) : awp X n c24_11 Q ((s0 :: s1 :: s2 :: s3 :: s4 :: s5 :: s6 :: s7 :: []), h) = (a_mov s0 h (.c (fun t6 h1 => ACall X 27 [t6] h1 (.c (fun t7 h2 => a_mov t7 h2 (.c (fun t2 h3 => Q .normal ((s0 :: s1 :: t2 :: s3 :: s4 :: s5 :: t6 :: t7 :: []), h3)) ())) ())) ())) := by rw [awp_eq]; kernel_rfl
noncomputable def c24_12 : Code := cr c24_10
theorem w24_12 (n : Nat) (Q : Qt) (st : St) : awp X n c24_12 Q st = Q .ret st := by rw [awp_eq]; kernel_rfl
theorem w24_10 (n : Nat) (Q : Qt) (st : St) : awp X n c24_10 Q st = awp X n c24_11 (thenQ (awp X n c24_12 Q) Q) st := by rw [awp_eq]; kernel_rfl
theorem w24_2 (n : Nat) (Q : Qt) (st : St) : awp X n c24_2 Q st = awp X n c24_3 (thenQ (awp X n c24_10 Q) Q) st := by rw [awp_eq]; kernel_rfl
theorem w24_0 (n : Nat) (Q : Qt) (st : St) : awp X n c24_0 Q st = awp X n c24_1 (thenQ (awp X n c24_2 Q) Q) st := by rw [awp_eq]; kernel_rfl
theorem q24_ret (s0 s1 s2 s3 s4 s5 s6 s7 : AV) (h : Heap) (K : Kt) : retQ X Try.f24 K .ret ((s0 :: s1 :: s2 :: s3 :: s4 :: s5 :: s6 :: s7 :: []), h) = (K.K s2 h) := by kernel_rfl
theorem q24_normal (s0 s1 s2 s3 s4 s5 s6 s7 : AV) (h : Heap) (K : Kt) : retQ X Try.f24 K .normal ((s0 :: s1 :: s2 :: s3 :: s4 :: s5 :: s6 :: s7 :: []), h) = (K.K s2 h) := by kernel_rfl
theorem i24 (a0 : AV) (h : Heap) (K : Kt) (H : awp X h.length c24_0 (retQ X Try.f24 K) ((a0 :: .bad :: .bad :: .bad :: .bad :: .bad :: .bad :: .bad :: []), h)) : ACall X 24 [a0] h K := acall_intro (fn := Try.f24) (by kernel_rfl) (by kernel_rfl) (by kernel_rfl) H
/-! function 26: (*sindri/sindriref01.C).Left -/
noncomputable def c26_0 : Code := bodyOf Try.f26
noncomputable def c26_1 : Code := cl c26_0
theorem w26_1 (s0 s1 s2 s3 s4 s5 s6 s7 s8 s9 s10 s11 s12 s13 s14 s15 s16 s17 : AV) (n : Nat) (h : Heap) (Q : Qt) : awp X n c26_1 Q ((s0 :: s1 :: s2 :: s3 :: s4 :: s5 :: s6 :: s7 :: s8 :: s9 :: s10 :: s11 :: s12 :: s13 :: s14 :: s15 :: s16 :: s17 :: []), h) = (a_mov (.v (.int .i64 0)) h (.c (fun t2 h1 => Q .normal ((s0 :: s1 :: t2 :: s3 :: s4 :: s5 :: s6 :: s7 :: s8 :: s9 :: s10 :: s11 :: s12 :: s13 :: s14 :: s15 :: s16 :: s17 :: []), h1)) ())) := by rw [awp_eq]; kernel_rfl
noncomputable def c26_2 : Code := cr c26_0
noncomputable def c26_3 : Code := cl c26_2
noncomputable def c26_4 : Code := cl c26_3
theorem w26_4 (s0 s1 s2 s3 s4 s5 s6 s7 s8 s9 s10 s11 s12 s13 s14 s15 s16 s17 : AV) (n : Nat) (h : Heap) (Q : Qt) : awp X n c26_4 Q ((s0 :: s1 :: s2 :: s3 :: s4 :: s5 :: s6 :: s7 :: s8 :: s9 :: s10 :: s11 :: s12 :: s13 :: s14 :: s15 :: s16 :: s17 :: []), h) = (a_mov s0 h (.c (fun t3 h1 => a_nilc t3 h1 (.c (fun t4 h2 => a_fa 2 t4 h2 (.c (fun t5 h3 => a_load 1 false t5 h3 (.c (fun t6 h4 => a_bin .neq t6 (.v (.int .i64 0)) h4 (.c (fun t7 h5 => Q .normal ((s0 :: s1 :: s2 :: t3 :: t4 :: t5 :: t6 :: t7 :: s8 :: s9 :: s10 :: s11 :: s12 :: s13 :: s14 :: s15 :: s16 :: s17 :: []), h5)) ())) ())) ())) ())) ())) := by rw [awp_eq]; kernel_rfl
noncomputable def c26_5 : Code := cr c26_3
noncomputable def c26_6 : Code := cl c26_5
noncomputable def c26_7 : Code := cl c26_6
theorem w26_7 (s0 s1 s2 s3 s4 s5 s6 s7 s8 s9 s10 s11 s12 s13 s14 s15 s16 s17 : AV) (n : Nat) (h : Heap) (Q : Qt) : awp X n c26_7 Q ((s0 :: s1 :: s2 :: s3 :: s4 :: s5 :: s6 :: s7 :: s8 :: s9 :: s10 :: s11 :: s12 :: s13 :: s14 :: s15 :: s16 :: s17 :: []), h) = (a_mov (.v (.int .i64 0)) h (.c (fun t2 h1 => Q .normal ((s0 :: s1 :: t2 :: s3 :: s4 :: s5 :: s6 :: s7 :: s8 :: s9 :: s10 :: s11 :: s12 :: s13 :: s14 :: s15 :: s16 :: s17 :: []), h1)) ())) := by rw [awp_eq]; kernel_rfl
noncomputable def c26_8 : Code := cr c26_6
theorem w26_8 (n : Nat) (Q : Qt) (st : St) : awp X n c26_8 Q st = Q .ret st := by rw [awp_eq]; kernel_rfl
theorem w26_6 (n : Nat) (Q : Qt) (st : St) : awp X n c26_6 Q st = awp X n c26_7 (thenQ (awp X n c26_8 Q) Q) st := by rw [awp_eq]; kernel_rfl
noncomputable def c26_9 : Code := cr c26_5
theorem w26_9 (n : Nat) (Q : Qt) (st : St) : awp X n c26_9 Q st = Q .normal st := by rw [awp_eq]; kernel_rfl
theorem w26_5 (s0 s1 s2 s3 s4 s5 s6 s7 s8 s9 s10 s11 s12 s13 s14 s15 s16 s17 : AV) (n : Nat) (h : Heap) (Q : Qt) : awp X n c26_5 Q ((s0 :: s1 :: s2 :: s3 :: s4 :: s5 :: s6 :: s7 :: s8 :: s9 :: s10 :: s11 :: s12 :: s13 :: s14 :: s15 :: s16 :: s17 :: []), h) = a_cond s7 (awp X n c26_6 Q ((s0 :: s1 :: s2 :: s3 :: s4 :: s5 :: s6 :: s7 :: s8 :: s9 :: s10 :: s11 :: s12 :: s13 :: s14 :: s15 :: s16 :: s17 :: []), h)) (awp X n c26_9 Q ((s0 :: s1 :: s2 :: s3 :: s4 :: s5 :: s6 :: s7 :: s8 :: s9 :: s10 :: s11 :: s12 :: s13 :: s14 :: s15 :: s16 :: s17 :: []), h)) := by rw [awp_eq]; kernel_rfl
theorem w26_3 (n : Nat) (Q : Qt) (st : St) : awp X n c26_3 Q st = awp X n c26_4 (thenQ (awp X n c26_5 Q) Q) st := by rw [awp_eq]; kernel_rfl
noncomputable def c26_10 : Code := cr c26_2
noncomputable def c26_11 : Code := cl c26_10
theorem w26_11 (s0 s1 s2 s3 s4 s5 s6 s7 s8 s9 s10 s11 s12 s13 s14 s15 s16 s17 : AV) (n : Nat) (h : Heap) (Q : Qt) : awp X n c26_11 Q ((s0 :: s1 :: s2 :: s3 :: s4 :: s5 :: s6 :: s7 :: s8 :: s9 :: s10 :: s11 :: s12 :: s13 :: s14 :: s15 :: s16 :: s17 :: []), h) = (a_mov s0 h (.c (fun t8 h1 => a_nilc t8 h1 (.c (fun t9 h2 => a_fa 0 t9 h2 (.c (fun t10 h3 => a_load 1 false t10 h3 (.c (fun t11 h4 => a_len t11 h4 (.c (fun t12 h5 => a_mov s0 h5 (.c (fun t13 h6 => a_nilc t13 h6 (.c (fun t14 h7 => a_fa 1 t14 h7 (.c (fun t15 h8 => a_load 1 false t15 h8 (.c (fun t16 h9 => a_bin .sub t12 t16 h9 (.c (fun t17 h10 => a_mov t17 h10 (.c (fun t2 h11 => Q .normal ((s0 :: s1 :: t2 :: s3 :: s4 :: s5 :: s6 :: s7 :: t8 :: t9 :: t10 :: t11 :: t12 :: t13 :: t14 :: t15 :: t16 :: t17 :: []), h11)) ())) ())) ())) ())) ())) ())) ())) ())) ())) ())) ())) := by rw [awp_eq]; kernel_rfl
noncomputable def c26_12 : Code := cr c26_10
theorem w26_12 (n : Nat) (Q : Qt) (st : St) : awp X n c26_12 Q st = Q .ret st := by rw [awp_eq]; kernel_rfl
theorem w26_10 (n : Nat) (Q : Qt) (st : St) : awp X n c26_10 Q st = awp X n c26_11 (thenQ (awp X n c26_12 Q) Q) st := by rw [awp_eq]; kernel_rfl
theorem w26_2 (n : Nat) (Q : Qt) (st : St) : awp X n c26_2 Q st = awp X n c26_3 (thenQ (awp X n c26_10 Q) Q) st := by rw [awp_eq]; kernel_rfl
theorem w26_0 (n : Nat) (Q : Qt) (st : St) : awp X n c26_0 Q st = awp X n c26_1 (thenQ (awp X n c26_2 Q) Q) st := by rw [awp_eq]; kernel_rfl
theorem q26_ret (s0 s1 s2 s3 s4 s5 s6 s7 s8 s9 s10 s11 s12 s13 s14 s15 s16 s17 : AV) (h : Heap) (K : Kt) : retQ X Try.f26 K .ret ((s0 :: s1 :: s2 :: s3 :: s4 :: s5 :: s6 :: s7 :: s8 :: s9 :: s10 :: s11 :: s12 :: s13 :: s14 :: s15 :: s16 :: s17 :: []), h) = (K.K s2 h) := by kernel_rfl
theorem q26_normal (s0 s1 s2 s3 s4 s5 s6 s7 s8 s9 s10 s11 s12 s13 s14 s15 s16 s17 : AV) (h : Heap) (K : Kt) : retQ X Try.f26 K .normal ((s0 :: s1 :: s2 :: s3 :: s4 :: s5 :: s6 :: s7 :: s8 :: s9 :: s10 :: s11 :: s12 :: s13 :: s14 :: s15 :: s16 :: s17 :: []), h) = (K.K s2 h) := by kernel_rfl
theorem i26 (a0 : AV) (h : Heap) (K : Kt) (H : awp X h.length c26_0 (retQ X Try.f26 K) ((a0 :: .bad :: .bad :: .bad :: .bad :: .bad :: .bad :: .bad :: .bad :: .bad :: .bad :: .bad :: .bad :: .bad :: .bad :: .bad :: .bad :: .bad :: []), h)) : ACall X 26 [a0] h K := acall_intro (fn := Try.f26) (by kernel_rfl) (by kernel_rfl) (by kernel_rfl) H
/-! function 27: (*sindri/cursor.Cursor).Err -/
noncomputable def c27_0 : Code := bodyOf Try.f27
noncomputable def c27_1 : Code := cl c27_0
theorem w27_1 (s0 s1 s2 s3 s4 s5 s6 s7 s8 s9 s10 s11 s12 s13 s14 s15 : AV) (n : Nat) (h : Heap) (Q : Qt) : awp X n c27_1 Q ((s0 :: s1 :: s2 :: s3 :: s4 :: s5 :: s6 :: s7 :: s8 :: s9 :: s10 :: s11 :: s12 :: s13 :: s14 :: s15 :: []), h) = (a_mov (.v (.int .i64 0)) h (.c (fun t2 h1 => Q .normal ((s0 :: s1 :: t2 :: s3 :: s4 :: s5 :: s6 :: s7 :: s8 :: s9 :: s10 :: s11 :: s12 :: s13 :: s14 :: s15 :: []), h1)) ())) := by rw [awp_eq]; kernel_rfl
noncomputable def c27_2 : Code := cr c27_0
noncomputable def c27_3 : Code := cl c27_2
noncomputable def c27_4 : Code := cl c27_3
theorem w27_4 (s0 s1 s2 s3 s4 s5 s6 s7 s8 s9 s10 s11 s12 s13 s14 s15 : AV) (n : Nat) (h : Heap) (Q : Qt) : awp X n c27_4 Q ((s0 :: s1 :: s2 :: s3 :: s4 :: s5 :: s6 :: s7 :: s8 :: s9 :: s10 :: s11 :: s12 :: s13 :: s14 :: s15 :: []), h) = (a_mov s0 h (.c (fun t3 h1 => a_eqp false t3 (.v (.pointer none)) h1 (.c (fun t4 h2 => a_mov t4 h2 (.c (fun t5 h3 => a_on t5 false (fun k => a_mov s0 h3 k) h3 (.c (fun t6 h4 => a_on t5 false (fun k => a_nilc t6 h4 k) h4 (.c (fun t7 h5 => a_on t5 false (fun k => a_fa 2 t7 h5 k) h5 (.c (fun t8 h6 => a_on t5 false (fun k => a_load 1 false t8 h6 k) h6 (.c (fun t9 h7 => a_on t5 false (fun k => a_un .not t9 h7 k) h7 (.c (fun t10 h8 => a_pick t5 (.v (.bool true)) t10 h8 (.c (fun t11 h9 => Q .normal ((s0 :: s1 :: s2 :: t3 :: t4 :: t5 :: t6 :: t7 :: t8 :: t9 :: t10 :: t11 :: s12 :: s13 :: s14 :: s15 :: []), h9)) ())) ())) ())) ())) ())) ())) ())) ())) ())) := by rw [awp_eq]; kernel_rfl
noncomputable def c27_5 : Code := cr c27_3
noncomputable def c27_6 : Code := cl c27_5
noncomputable def c27_7 : Code := cl c27_6
theorem w27_7 (s0 s1 s2 s3 s4 s5 s6 s7 s8 s9 s10 s11 s12 s13 s14 s15 : AV) (n : Nat) (h : Heap) (Q : Qt) : awp X n c27_7 Q ((s0 :: s1 :: s2 :: s3 :: s4 :: s5 :: s6 :: s7 :: s8 :: s9 :: s10 :: s11 :: s12 :: s13 :: s14 :: s15 :: []), h) = (a_mov (.v (.int .i64 1)) h (.c (fun t2 h1 => Q .normal ((s0 :: s1 :: t2 :: s3 :: s4 :: s5 :: s6 :: s7 :: s8 :: s9 :: s10 :: s11 :: s12 :: s13 :: s14 :: s15 :: []), h1)) ())) := by rw [awp_eq]; kernel_rfl
noncomputable def c27_8 : Code := cr c27_6
theorem w27_8 (n : Nat) (Q : Qt) (st : St) : awp X n c27_8 Q st = Q .ret st := by rw [awp_eq]; kernel_rfl
theorem w27_6 (n : Nat) (Q : Qt) (st : St) : awp X n c27_6 Q st = awp X n c27_7 (thenQ (awp X n c27_8 Q) Q) st := by rw [awp_eq]; kernel_rfl
noncomputable def c27_9 : Code := cr c27_5
theorem w27_9 (n : Nat) (Q : Qt) (st : St) : awp X n c27_9 Q st = Q .normal st := by rw [awp_eq]; kernel_rfl
theorem w27_5 (s0 s1 s2 s3 s4 s5 s6 s7 s8 s9 s10 s11 s12 s13 s14 s15 : AV) (n : Nat) (h : Heap) (Q : Qt) : awp X n c27_5 Q ((s0 :: s1 :: s2 :: s3 :: s4 :: s5 :: s6 :: s7 :: s8 :: s9 :: s10 :: s11 :: s12 :: s13 :: s14 :: s15 :: []), h) = a_cond s11 (awp X n c27_6 Q ((s0 :: s1 :: s2 :: s3 :: s4 :: s5 :: s6 :: s7 :: s8 :: s9 :: s10 :: s11 :: s12 :: s13 :: s14 :: s15 :: []), h)) (awp X n c27_9 Q ((s0 :: s1 :: s2 :: s3 :: s4 :: s5 :: s6 :: s7 :: s8 :: s9 :: s10 :: s11 :: s12 :: s13 :: s14 :: s15 :: []), h)) := by rw [awp_eq]; kernel_rfl
theorem w27_3 (n : Nat) (Q : Qt) (st : St) : awp X n c27_3 Q st = awp X n c27_4 (thenQ (awp X n c27_5 Q) Q) st := by rw [awp_eq]; kernel_rfl
noncomputable def c27_10 : Code := cr c27_2
noncomputable def c27_11 : Code := cl c27_10
theorem w27_11 (s0 s1 s2 s3 s4 s5 s6 s7 s8 s9 s10 s11 s12 s13 s14 s15 : AV) (n : Nat) (h : Heap) (Q : Qt) : awp X n c27_11 Q ((s0 :: s1 :: s2 :: s3 :: s4 :: s5 :: s6 :: s7 :: s8 :: s9 :: s10 :: s11 :: s12 :: s13 :: s14 :: s15 :: []), h) = (a_mov s0 h (.c (fun t12 h1 => a_nilc t12 h1 (.c (fun t13 h2 => a_fa 3 t13 h2 (.c (fun t14 h3 => a_load 1 false t14 h3 (.c (fun t15 h4 => a_mov t15 h4 (.c (fun t2 h5 => Q .normal ((s0 :: s1 :: t2 :: s3 :: s4 :: s5 :: s6 :: s7 :: s8 :: s9 :: s10 :: s11 :: t12 :: t13 :: t14 :: t15 :: []), h5)) ())) ())) ())) ())) ())) := by rw [awp_eq]; kernel_rfl
noncomputable def c27_12 : Code := cr c27_10
theorem w27_12 (n : Nat) (Q : Qt) (st : St) : awp X n c27_12 Q st = Q .ret st := by rw [awp_eq]; kernel_rfl
theorem w27_10 (n : Nat) (Q : Qt) (st : St) : awp X n c27_10 Q st = awp X n c27_11 (thenQ (awp X n c27_12 Q) Q) st := by rw [awp_eq]; kernel_rfl
theorem w27_2 (n : Nat) (Q : Qt) (st : St) : awp X n c27_2 Q st = awp X n c27_3 (thenQ (awp X n c27_10 Q) Q) st := by rw [awp_eq]; kernel_rfl
theorem w27_0 (n : Nat) (Q : Qt) (st : St) : awp X n c27_0 Q st = awp X n c27_1 (thenQ (awp X n c27_2 Q) Q) st := by rw [awp_eq]; kernel_rfl
theorem q27_ret (s0 s1 s2 s3 s4 s5 s6 s7 s8 s9 s10 s11 s12 s13 s14 s15 : AV) (h : Heap) (K : Kt) : retQ X Try.f27 K .ret ((s0 :: s1 :: s2 :: s3 :: s4 :: s5 :: s6 :: s7 :: s8 :: s9 :: s10 :: s11 :: s12 :: s13 :: s14 :: s15 :: []), h) = (K.K s2 h) := by kernel_rfl
theorem q27_normal (s0 s1 s2 s3 s4 s5 s6 s7 s8 s9 s10 s11 s12 s13 s14 s15 : AV) (h : Heap) (K : Kt) : retQ X Try.f27 K .normal ((s0 :: s1 :: s2 :: s3 :: s4 :: s5 :: s6 :: s7 :: s8 :: s9 :: s10 :: s11 :: s12 :: s13 :: s14 :: s15 :: []), h) = (K.K s2 h) := by kernel_rfl
theorem i27 (a0 : AV) (h : Heap) (K : Kt) (H : awp X h.length c27_0 (retQ X Try.f27 K) ((a0 :: .bad :: .bad :: .bad :: .bad :: .bad :: .bad :: .bad :: .bad :: .bad :: .bad :: .bad :: .bad :: .bad :: .bad :: .bad :: []), h)) : ACall X 27 [a0] h K := acall_intro (fn := Try.f27) (by kernel_rfl) (by kernel_rfl) (by kernel_rfl) H
/-! function 28: (*sindri/sindriref01.C).End -/
noncomputable def c28_0 : Code := bodyOf Try.f28
noncomputable def c28_1 : Code := cl c28_0
theorem w28_1 (s0 s1 s2 s3 s4 s5 s6 s7 s8 s9 s10 s11 s12 s13 s14 s15 s16 : AV) (n : Nat) (h : Heap) (Q : Qt) : awp X n c28_1 Q ((s0 :: s1 :: s2 :: s3 :: s4 :: s5 :: s6 :: s7 :: s8 :: s9 :: s10 :: s11 :: s12 :: s13 :: s14 :: s15 :: s16 :: []), h) = (a_mov (.v (.int .i64 0)) h (.c (fun t2 h1 => Q .normal ((s0 :: s1 :: t2 :: s3 :: s4 :: s5 :: s6 :: s7 :: s8 :: s9 :: s10 :: s11 :: s12 :: s13 :: s14 :: s15 :: s16 :: []), h1)) ())) := by rw [awp_eq]; kernel_rfl
noncomputable def c28_2 : Code := cr c28_0
noncomputable def c28_3 : Code := cl c28_2
noncomputable def c28_4 : Code := cl c28_3
theorem w28_4 (s0 s1 s2 s3 s4 s5 s6 s7 s8 s9 s10 s11 s12 s13 s14 s15 s16 : AV) (n : Nat) (h : Heap) (Q : Qt) : awp X n c28_4 Q ((s0 :: s1 :: s2 :: s3 :: s4 :: s5 :: s6 :: s7 :: s8 :: s9 :: s10 :: s11 :: s12 :: s13 :: s14 :: s15 :: s16 :: []), h) = (a_mov s0 h (.c (fun t3 h1 => a_nilc t3 h1 (.c (fun t4 h2 => a_fa 2 t4 h2 (.c (fun t5 h3 => a_load 1 false t5 h3 (.c (fun t6 h4 => a_bin .eql t6 (.v (.int .i64 0)) h4 (.c (fun t7 h5 => a_mov t7 h5 (.c (fun t8 h6 => a_on t8 true (fun k => a_mov s0 h6 k) h6 (.c (fun t9 h7 => a_on t8 true (fun k => ACall X 26 [t9] h7 k) h7 (.c (fun t10 h8 => a_on t8 true (fun k => a_bin .gtr t10 (.v (.int .i64 0)) h8 k) h8 (.c (fun t11 h9 => a_pick t8 t11 (.v (.bool false)) h9 (.c (fun t12 h10 => Q .normal ((s0 :: s1 :: s2 :: t3 :: t4 :: t5 :: t6 :: t7 :: t8 :: t9 :: t10 :: t11 :: t12 :: s13 :: s14 :: s15 :: s16 :: []), h10)) ())) ())) ())) ())) ())) ())) ())) ())) ())) ())) := by rw [awp_eq]; kernel_rfl
noncomputable def c28_5 : Code := cr c28_3
noncomputable def c28_6 : Code := cl c28_5
noncomputable def c28_7 : Code := cl c28_6
theorem w28_7 (s0 s1 s2 s3 s4 s5 s6 s7 s8 s9 s10 s11 s12 s13 s14 s15 s16 : AV) (n : Nat) (h : Heap) (Q : Qt) : awp X n c28_7 Q ((s0 :: s1 :: s2 :: s3 :: s4 :: s5 :: s6 :: s7 :: s8 :: s9 :: s10 :: s11 :: s12 :: s13 :: s14 :: s15 :: s16 :: []), h) = (a_mov (.v (.int .i64 2)) h (.c (fun t2 h1 => Q .normal ((s0 :: s1 :: t2 :: s3 :: s4 :: s5 :: s6 :: s7 :: s8 :: s9 :: s10 :: s11 :: s12 :: s13 :: s14 :: s15 :: s16 :: []), h1)) ())) := by rw [awp_eq]; kernel_rfl
noncomputable def c28_8 : Code := cr c28_6
theorem w28_8 (n : Nat) (Q : Qt) (st : St) : awp X n c28_8 Q st = Q .ret st := by rw [awp_eq]; kernel_rfl
theorem w28_6 (n : Nat) (Q : Qt) (st : St) : awp X n c28_6 Q st = awp X n c28_7 (thenQ (awp X n c28_8 Q) Q) st := by rw [awp_eq]; kernel_rfl
noncomputable def c28_9 : Code := cr c28_5
theorem w28_9 (n : Nat) (Q : Qt) (st : St) : awp X n c28_9 Q st = Q .normal st := by rw [awp_eq]; kernel_rfl
theorem w28_5 (s0 s1 s2 s3 s4 s5 s6 s7 s8 s9 s10 s11 s12 s13 s14 s15 s16 : AV) (n : Nat) (h : Heap) (Q : Qt) : awp X n c28_5 Q ((s0 :: s1 :: s2 :: s3 :: s4 :: s5 :: s6 :: s7 :: s8 :: s9 :: s10 :: s11 :: s12 :: s13 :: s14 :: s15 :: s16 :: []), h) = a_cond s12 (awp X n c28_6 Q ((s0 :: s1 :: s2 :: s3 :: s4 :: s5 :: s6 :: s7 :: s8 :: s9 :: s10 :: s11 :: s12 :: s13 :: s14 :: s15 :: s16 :: []), h)) (awp X n c28_9 Q ((s0 :: s1 :: s2 :: s3 :: s4 :: s5 :: s6 :: s7 :: s8 :: s9 :: s10 :: s11 :: s12 :: s13 :: s14 :: s15 :: s16 :: []), h)) := by rw [awp_eq]; kernel_rfl
theorem w28_3 (n : Nat) (Q : Qt) (st : St) : awp X n c28_3 Q st = awp X n c28_4 (thenQ (awp X n c28_5 Q) Q) st := by rw [awp_eq]; kernel_rfl
noncomputable def c28_10 : Code := cr c28_2
noncomputable def c28_11 : Code := cl c28_10
theorem w28_11 (s0 s1 s2 s3 s4 s5 s6 s7 s8 s9 s10 s11 s12 s13 s14 s15 s16 : AV) (n : Nat) (h : Heap) (Q : Qt) : awp X n c28_11 Q ((s0 :: s1 :: s2 :: s3 :: s4 :: s5 :: s6 :: s7 :: s8 :: s9 :: s10 :: s11 :: s12 :: s13 :: s14 :: s15 :: s16 :: []), h) = (a_mov s0 h (.c (fun t13 h1 => a_nilc t13 h1 (.c (fun t14 h2 => a_fa 2 t14 h2 (.c (fun t15 h3 => a_load 1 false t15 h3 (.c (fun t16 h4 => a_mov t16 h4 (.c (fun t2 h5 => Q .normal ((s0 :: s1 :: t2 :: s3 :: s4 :: s5 :: s6 :: s7 :: s8 :: s9 :: s10 :: s11 :: s12 :: t13 :: t14 :: t15 :: t16 :: []), h5)) ())) ())) ())) ())) ())) := by rw [awp_eq]; kernel_rfl
noncomputable def c28_12 : Code := cr c28_10
theorem w28_12 (n : Nat) (Q : Qt) (st : St) : awp X n c28_12 Q st = Q .ret st := by rw [awp_eq]; kernel_rfl
theorem w28_10 (n : Nat) (Q : Qt) (st : St) : awp X n c28_10 Q st = awp X n c28_11 (thenQ (awp X n c28_12 Q) Q) st := by rw [awp_eq]; kernel_rfl
theorem w28_2 (n : Nat) (Q : Qt) (st : St) : awp X n c28_2 Q st = awp X n c28_3 (thenQ (awp X n c28_10 Q) Q) st := by rw [awp_eq]; kernel_rfl
theorem w28_0 (n : Nat) (Q : Qt) (st : St) : awp X n c28_0 Q st = awp X n c28_1 (thenQ (awp X n c28_2 Q) Q) st := by rw [awp_eq]; kernel_rfl
theorem q28_ret (s0 s1 s2 s3 s4 s5 s6 s7 s8 s9 s10 s11 s12 s13 s14 s15 s16 : AV) (h : Heap) (K : Kt) : retQ X Try.f28 K .ret ((s0 :: s1 :: s2 :: s3 :: s4 :: s5 :: s6 :: s7 :: s8 :: s9 :: s10 :: s11 :: s12 :: s13 :: s14 :: s15 :: s16 :: []), h) = (K.K s2 h) := by kernel_rfl
theorem q28_normal (s0 s1 s2 s3 s4 s5 s6 s7 s8 s9 s10 s11 s12 s13 s14 s15 s16 : AV) (h : Heap) (K : Kt) : retQ X Try.f28 K .normal ((s0 :: s1 :: s2 :: s3 :: s4 :: s5 :: s6 :: s7 :: s8 :: s9 :: s10 :: s11 :: s12 :: s13 :: s14 :: s15 :: s16 :: []), h) = (K.K s2 h) := by kernel_rfl
theorem i28 (a0 : AV) (h : Heap) (K : Kt) (H : awp X h.length c28_0 (retQ X Try.f28 K) ((a0 :: .bad :: .bad :: .bad :: .bad :: .bad :: .bad :: .bad :: .bad :: .bad :: .bad :: .bad :: .bad :: .bad :: .bad :: .bad :: .bad :: []), h)) : ACall X 28 [a0] h K := acall_intro (fn := Try.f28) (by kernel_rfl) (by kernel_rfl) (by kernel_rfl) H
/-! function 29: (*sindri/cursor.Cursor).U16 -/
noncomputable def c29_0 : Code := bodyOf Try.f29
noncomputable def c29_1 : Code := cl c29_0
theorem w29_1 (s0 s1 s2 s3 s4 : AV) (n : Nat) (h : Heap) (Q : Qt) : awp X n c29_1 Q ((s0 :: s1 :: s2 :: s3 :: s4 :: []), h) = (a_mov (.v (.int .u64 0)) h (.c (fun t2 h1 => Q .normal ((s0 :: s1 :: t2 :: s3 :: s4 :: []), h1)) ())) := by rw [awp_eq]; kernel_rfl
noncomputable def c29_2 : Code := cr c29_0
noncomputable def c29_3 : Code := cl c29_2
theorem w29_3 (s0 s1 s2 s3 s4 : AV) (n : Nat) (h : Heap) (Q : Qt) : awp X n c29_3 Q ((s0 :: s1 :: s2 :: s3 :: s4 :: []), h) = (a_mov s0 h (.c (fun t3 h1 => ACall X 13 [t3, (.v (.int .i64 2))] h1 (.c (fun t4 h2 => a_mov t4 h2 (.c (fun t2 h3 => Q .normal ((s0 :: s1 :: t2 :: t3 :: t4 :: []), h3)) ())) ())) ())) := by rw [awp_eq]; kernel_rfl
noncomputable def c29_4 : Code := cr c29_2
theorem w29_4 (n : Nat) (Q : Qt) (st : St) : awp X n c29_4 Q st = Q .ret st := by rw [awp_eq]; kernel_rfl
theorem w29_2 (n : Nat) (Q : Qt) (st : St) : awp X n c29_2 Q st = awp X n c29_3 (thenQ (awp X n c29_4 Q) Q) st := by rw [awp_eq]; kernel_rfl
theorem w29_0 (n : Nat) (Q : Qt) (st : St) : awp X n c29_0 Q st = awp X n c29_1 (thenQ (awp X n c29_2 Q) Q) st := by rw [awp_eq]; kernel_rfl
theorem q29_ret (s0 s1 s2 s3 s4 : AV) (h : Heap) (K : Kt) : retQ X Try.f29 K .ret ((s0 :: s1 :: s2 :: s3 :: s4 :: []), h) = (K.K s2 h) := by kernel_rfl
theorem q29_normal (s0 s1 s2 s3 s4 : AV) (h : Heap) (K : Kt) : retQ X Try.f29 K .normal ((s0 :: s1 :: s2 :: s3 :: s4 :: []), h) = (K.K s2 h) := by kernel_rfl
theorem i29 (a0 : AV) (h : Heap) (K : Kt) (H : awp X h.length c29_0 (retQ X Try.f29 K) ((a0 :: .bad :: .bad :: .bad :: .bad :: []), h)) : ACall X 29 [a0] h K := acall_intro (fn := Try.f29) (by kernel_rfl) (by kernel_rfl) (by kernel_rfl) H
/-! function 30: (*sindri/cursor.Cursor).U32 -/
noncomputable def c30_0 : Code := bodyOf Try.f30
noncomputable def c30_1 : Code := cl c30_0
theorem w30_1 (s0 s1 s2 s3 s4 : AV) (n : Nat) (h : Heap) (Q : Qt) : awp X n c30_1 Q ((s0 :: s1 :: s2 :: s3 :: s4 :: []), h) = (a_mov (.v (.int .u64 0)) h (.c (fun t2 h1 => Q .normal ((s0 :: s1 :: t2 :: s3 :: s4 :: []), h1)) ())) := by rw [awp_eq]; kernel_rfl
noncomputable def c30_2 : Code := cr c30_0
noncomputable def c30_3 : Code := cl c30_2
theorem w30_3 (s0 s1 s2 s3 s4 : AV) (n : Nat) (h : Heap) (Q : Qt) : awp X n c30_3 Q ((s0 :: s1 :: s2 :: s3 :: s4 :: []), h) = (a_mov s0 h (.c (fun t3 h1 => ACall X 13 [t3, (.v (.int .i64 4))] h1 (.c (fun t4 h2 => a_mov t4 h2 (.c (fun t2 h3 => Q .normal ((s0 :: s1 :: t2 :: t3 :: t4 :: []), h3)) ())) ())) ())) := by rw [awp_eq]; kernel_rfl
noncomputable def c30_4 : Code := cr c30_2
theorem w30_4 (n : Nat) (Q : Qt) (st : St) : awp X n c30_4 Q st = Q .ret st := by rw [awp_eq]; kernel_rfl
theorem w30_2 (n : Nat) (Q : Qt) (st : St) : awp X n c30_2 Q st = awp X n c30_3 (thenQ (awp X n c30_4 Q) Q) st := by rw [awp_eq]; kernel_rfl
theorem w30_0 (n : Nat) (Q : Qt) (st : St) : awp X n c30_0 Q st = awp X n c30_1 (thenQ (awp X n c30_2 Q) Q) st := by rw [awp_eq]; kernel_rfl
theorem q30_ret (s0 s1 s2 s3 s4 : AV) (h : Heap) (K : Kt) : retQ X Try.f30 K .ret ((s0 :: s1 :: s2 :: s3 :: s4 :: []), h) = (K.K s2 h) := by kernel_rfl
theorem q30_normal (s0 s1 s2 s3 s4 : AV) (h : Heap) (K : Kt) : retQ X Try.f30 K .normal ((s0 :: s1 :: s2 :: s3 :: s4 :: []), h) = (K.K s2 h) := by kernel_rfl
theorem i30 (a0 : AV) (h : Heap) (K : Kt) (H : awp X h.length c30_0 (retQ X Try.f30 K) ((a0 :: .bad :: .bad :: .bad :: .bad :: []), h)) : ACall X 30 [a0] h K := acall_intro (fn := Try.f30) (by kernel_rfl) (by kernel_rfl) (by kernel_rfl) H
/-! function 31: (*sindri/cursor.Cursor).U64 -/
noncomputable def c31_0 : Code := bodyOf Try.f31
noncomputable def c31_1 : Code := cl c31_0
theorem w31_1 (s0 s1 s2 s3 s4 : AV) (n : Nat) (h : Heap) (Q : Qt) : awp X n c31_1 Q ((s0 :: s1 :: s2 :: s3 :: s4 :: []), h) = (a_mov (.v (.int .u64 0)) h (.c (fun t2 h1 => Q .normal ((s0 :: s1 :: t2 :: s3 :: s4 :: []), h1)) ())) := by rw [awp_eq]; kernel_rfl
noncomputable def c31_2 : Code := cr c31_0
noncomputable def c31_3 : Code := cl c31_2
theorem w31_3 (s0 s1 s2 s3 s4 : AV) (n : Nat) (h : Heap) (Q : Qt) : awp X n c31_3 Q ((s0 :: s1 :: s2 :: s3 :: s4 :: []), h) = (a_mov s0 h (.c (fun t3 h1 => ACall X 13 [t3, (.v (.int .i64 8))] h1 (.c (fun t4 h2 => a_mov t4 h2 (.c (fun t2 h3 => Q .normal ((s0 :: s1 :: t2 :: t3 :: t4 :: []), h3)) ())) ())) ())) := by rw [awp_eq]; kernel_rfl
noncomputable def c31_4 : Code := cr c31_2
theorem w31_4 (n : Nat) (Q : Qt) (st : St) : awp X n c31_4 Q st = Q .ret st := by rw [awp_eq]; kernel_rfl
theorem w31_2 (n : Nat) (Q : Qt) (st : St) : awp X n c31_2 Q st = awp X n c31_3 (thenQ (awp X n c31_4 Q) Q) st := by rw [awp_eq]; kernel_rfl
theorem w31_0 (n : Nat) (Q : Qt) (st : St) : awp X n c31_0 Q st = awp X n c31_1 (thenQ (awp X n c31_2 Q) Q) st := by rw [awp_eq]; kernel_rfl
theorem q31_ret (s0 s1 s2 s3 s4 : AV) (h : Heap) (K : Kt) : retQ X Try.f31 K .ret ((s0 :: s1 :: s2 :: s3 :: s4 :: []), h) = (K.K s2 h) := by kernel_rfl
theorem q31_normal (s0 s1 s2 s3 s4 : AV) (h : Heap) (K : Kt) : retQ X Try.f31 K .normal ((s0 :: s1 :: s2 :: s3 :: s4 :: []), h) = (K.K s2 h) := by kernel_rfl
theorem i31 (a0 : AV) (h : Heap) (K : Kt) (H : awp X h.length c31_0 (retQ X Try.f31 K) ((a0 :: .bad :: .bad :: .bad :: .bad :: []), h)) : ACall X 31 [a0] h K := acall_intro (fn := Try.f31) (by kernel_rfl) (by kernel_rfl) (by kernel_rfl) H
/-! function 32: sindri/cursor.width -/
noncomputable def c32_0 : Code := bodyOf Try.f32
noncomputable def c32_1 : Code := cl c32_0
theorem w32_1 (s0 s1 s2 s3 s4 s5 : AV) (n : Nat) (h : Heap) (Q : Qt) : awp X n c32_1 Q ((s0 :: s1 :: s2 :: s3 :: s4 :: s5 :: []), h) = (a_mov (.v (.int .i64 0)) h (.c (fun t2 h1 => Q .normal ((s0 :: s1 :: t2 :: s3 :: s4 :: s5 :: []), h1)) ())) := by rw [awp_eq]; kernel_rfl
noncomputable def c32_2 : Code := cr c32_0
noncomputable def c32_3 : Code := cl c32_2
theorem w32_3 (s0 s1 s2 s3 s4 s5 : AV) (n : Nat) (h : Heap) (Q : Qt) : awp X n c32_3 Q ((s0 :: s1 :: s2 :: s3 :: s4 :: s5 :: []), h) = (a_mov s0 h (.c (fun t3 h1 => a_max [t3, (.v (.int .i64 0))] h1 (.c (fun t4 h2 => a_min [t4, (.v (.int .i64 8))] h2 (.c (fun t5 h3 => a_mov t5 h3 (.c (fun t2 h4 => Q .normal ((s0 :: s1 :: t2 :: t3 :: t4 :: t5 :: []), h4)) ())) ())) ())) ())) := by rw [awp_eq]; kernel_rfl
noncomputable def c32_4 : Code := cr c32_2
theorem w32_4 (n : Nat) (Q : Qt) (st : St) : awp X n c32_4 Q st = Q .ret st := by rw [awp_eq]; kernel_rfl
theorem w32_2 (n : Nat) (Q : Qt) (st : St) : awp X n c32_2 Q st = awp X n c32_3 (thenQ (awp X n c32_4 Q) Q) st := by rw [awp_eq]; kernel_rfl
theorem w32_0 (n : Nat) (Q : Qt) (st : St) : awp X n c32_0 Q st = awp X n c32_1 (thenQ (awp X n c32_2 Q) Q) st := by rw [awp_eq]; kernel_rfl
theorem q32_ret (s0 s1 s2 s3 s4 s5 : AV) (h : Heap) (K : Kt) : retQ X Try.f32 K .ret ((s0 :: s1 :: s2 :: s3 :: s4 :: s5 :: []), h) = (K.K s2 h) := by kernel_rfl
theorem q32_normal (s0 s1 s2 s3 s4 s5 : AV) (h : Heap) (K : Kt) : retQ X Try.f32 K .normal ((s0 :: s1 :: s2 :: s3 :: s4 :: s5 :: []), h) = (K.K s2 h) := by kernel_rfl
theorem i32 (a0 : AV) (h : Heap) (K : Kt) (H : awp X h.length c32_0 (retQ X Try.f32 K) ((a0 :: .bad :: .bad :: .bad :: .bad :: .bad :: []), h)) : ACall X 32 [a0] h K := acall_intro (fn := Try.f32) (by kernel_rfl) (by kernel_rfl) (by kernel_rfl) H
/-! function 33: sindri/sindriref01.size -/
noncomputable def c33_0 : Code := bodyOf Try.f33
noncomputable def c33_1 : Code := cl c33_0
theorem w33_1 (s0 s1 s2 s3 s4 s5 s6 s7 : AV) (n : Nat) (h : Heap) (Q : Qt) : awp X n c33_1 Q ((s0 :: s1 :: s2 :: s3 :: s4 :: s5 :: s6 :: s7 :: []), h) = (a_mov (.v (.int .i64 0)) h (.c (fun t2 h1 => Q .normal ((s0 :: s1 :: t2 :: s3 :: s4 :: s5 :: s6 :: s7 :: []), h1)) ())) := by rw [awp_eq]; kernel_rfl
noncomputable def c33_2 : Code := cr c33_0
noncomputable def c33_3 : Code := cl c33_2
noncomputable def c33_4 : Code := cl c33_3
theorem w33_4 (s0 s1 s2 s3 s4 s5 s6 s7 : AV) (n : Nat) (h : Heap) (Q : Qt) : awp X n c33_4 Q ((s0 :: s1 :: s2 :: s3 :: s4 :: s5 :: s6 :: s7 :: []), h) = (a_mov s0 h (.c (fun t3 h1 => a_bin .lss t3 (.v (.int .i64 0)) h1 (.c (fun t4 h2 => Q .normal ((s0 :: s1 :: s2 :: t3 :: t4 :: s5 :: s6 :: s7 :: []), h2)) ())) ())) := by rw [awp_eq]; kernel_rfl
noncomputable def c33_5 : Code := cr c33_3
noncomputable def c33_6 : Code := cl c33_5
noncomputable def c33_7 : Code := cl c33_6
theorem w33_7 (s0 s1 s2 s3 s4 s5 s6 s7 : AV) (n : Nat) (h : Heap) (Q : Qt) : awp X n c33_7 Q ((s0 :: s1 :: s2 :: s3 :: s4 :: s5 :: s6 :: s7 :: []), h) = (a_mov (.v (.int .i64 0)) h (.c (fun t2 h1 => Q .normal ((s0 :: s1 :: t2 :: s3 :: s4 :: s5 :: s6 :: s7 :: []), h1)) ())) := by rw [awp_eq]; kernel_rfl
noncomputable def c33_8 : Code := cr c33_6
theorem w33_8 (n : Nat) (Q : Qt) (st : St) : awp X n c33_8 Q st = Q .ret st := by rw [awp_eq]; kernel_rfl
theorem w33_6 (n : Nat) (Q : Qt) (st : St) : awp X n c33_6 Q st = awp X n c33_7 (thenQ (awp X n c33_8 Q) Q) st := by rw [awp_eq]; kernel_rfl
noncomputable def c33_9 : Code := cr c33_5
theorem w33_9 (n : Nat) (Q : Qt) (st : St) : awp X n c33_9 Q st = Q .normal st := by rw [awp_eq]; kernel_rfl
theorem w33_5 (s0 s1 s2 s3 s4 s5 s6 s7 : AV) (n : Nat) (h : Heap) (Q : Qt) : awp X n c33_5 Q ((s0 :: s1 :: s2 :: s3 :: s4 :: s5 :: s6 :: s7 :: []), h) = a_cond s4 (awp X n c33_6 Q ((s0 :: s1 :: s2 :: s3 :: s4 :: s5 :: s6 :: s7 :: []), h)) (awp X n c33_9 Q ((s0 :: s1 :: s2 :: s3 :: s4 :: s5 :: s6 :: s7 :: []), h)) := by rw [awp_eq]; kernel_rfl
theorem w33_3 (n : Nat) (Q : Qt) (st : St) : awp X n c33_3 Q st = awp X n c33_4 (thenQ (awp X n c33_5 Q) Q) st := by rw [awp_eq]; kernel_rfl
noncomputable def c33_10 : Code := cr c33_2
noncomputable def c33_11 : Code := cl c33_10
noncomputable def c33_12 : Code := cl c33_11
theorem w33_12 (s0 s1 s2 s3 s4 s5 s6 s7 : AV) (n : Nat) (h : Heap) (Q : Qt) : awp X n c33_12 Q ((s0 :: s1 :: s2 :: s3 :: s4 :: s5 :: s6 :: s7 :: []), h) = (a_mov s0 h (.c (fun t5 h1 => a_bin .gtr t5 (.v (.int .i64 8)) h1 (.c (fun t6 h2 => Q .normal ((s0 :: s1 :: s2 :: s3 :: s4 :: t5 :: t6 :: s7 :: []), h2)) ())) ())) := by rw [awp_eq]; kernel_rfl
noncomputable def c33_13 : Code := cr c33_11
noncomputable def c33_14 : Code := cl c33_13
noncomputable def c33_15 : Code := cl c33_14
theorem w33_15 (s0 s1 s2 s3 s4 s5 s6 s7 : AV) (n : Nat) (h : Heap) (Q : Qt) : awp X n c33_15 Q ((s0 :: s1 :: s2 :: s3 :: s4 :: s5 :: s6 :: s7 :: []), h) = (a_mov (.v (.int .i64 8)) h (.c (fun t2 h1 => Q .normal ((s0 :: s1 :: t2 :: s3 :: s4 :: s5 :: s6 :: s7 :: []), h1)) ())) := by rw [awp_eq]; kernel_rfl
noncomputable def c33_16 : Code := cr c33_14
theorem w33_16 (n : Nat) (Q : Qt) (st : St) : awp X n c33_16 Q st = Q .ret st := by rw [awp_eq]; kernel_rfl
theorem w33_14 (n : Nat) (Q : Qt) (st : St) : awp X n c33_14 Q st = awp X n c33_15 (thenQ (awp X n c33_16 Q) Q) st := by rw [awp_eq]; kernel_rfl
noncomputable def c33_17 : Code := cr c33_13
theorem w33_17 (n : Nat) (Q : Qt) (st : St) : awp X n c33_17 Q st = Q .normal st := by rw [awp_eq]; kernel_rfl
theorem w33_13 (s0 s1 s2 s3 s4 s5 s6 s7 : AV) (n : Nat) (h : Heap) (Q : Qt) : awp X n c33_13 Q ((s0 :: s1 :: s2 :: s3 :: s4 :: s5 :: s6 :: s7 :: []), h) = a_cond s6 (awp X n c33_14 Q ((s0 :: s1 :: s2 :: s3 :: s4 :: s5 :: s6 :: s7 :: []), h)) (awp X n c33_17 Q ((s0 :: s1 :: s2 :: s3 :: s4 :: s5 :: s6 :: s7 :: []), h)) := by rw [awp_eq]; kernel_rfl
theorem w33_11 (n : Nat) (Q : Qt) (st : St) : awp X n c33_11 Q st = awp X n c33_12 (thenQ (awp X n c33_13 Q) Q) st := by rw [awp_eq]; kernel_rfl
noncomputable def c33_18 : Code := cr c33_10
noncomputable def c33_19 : Code := cl c33_18
theorem w33_19 (s0 s1 s2 s3 s4 s5 s6 s7 : AV) (n : Nat) (h : Heap) (Q : Qt) : awp X n c33_19 Q ((s0 :: s1 :: s2 :: s3 :: s4 :: s5 :: s6 :: s7 :: []), h) = (a_mov s0 h (.c (fun t7 h1 => a_mov t7 h1 (.c (fun t2 h2 => Q .normal ((s0 :: s1 :: t2 :: s3 :: s4 :: s5 :: s6 :: t7 :: []), h2)) ())) ())) := by rw [awp_eq]; kernel_rfl
noncomputable def c33_20 : Code := cr c33_18
theorem w33_20 (n : Nat) (Q : Qt) (st : St) : awp X n c33_20 Q st = Q .ret st := by rw [awp_eq]; kernel_rfl
theorem w33_18 (n : Nat) (Q : Qt) (st : St) : awp X n c33_18 Q st = awp X n c33_19 (thenQ (awp X n c33_20 Q) Q) st := by rw [awp_eq]; kernel_rfl
theorem w33_10 (n : Nat) (Q : Qt) (st : St) : awp X n c33_10 Q st = awp X n c33_11 (thenQ (awp X n c33_18 Q) Q) st := by rw [awp_eq]; kernel_rfl
theorem w33_2 (n : Nat) (Q : Qt) (st : St) : awp X n c33_2 Q st = awp X n c33_3 (thenQ (awp X n c33_10 Q) Q) st := by rw [awp_eq]; kernel_rfl
theorem w33_0 (n : Nat) (Q : Qt) (st : St) : awp X n c33_0 Q st = awp X n c33_1 (thenQ (awp X n c33_2 Q) Q) st := by rw [awp_eq]; kernel_rfl
theorem q33_ret (s0 s1 s2 s3 s4 s5 s6 s7 : AV) (h : Heap) (K : Kt) : retQ X Try.f33 K .ret ((s0 :: s1 :: s2 :: s3 :: s4 :: s5 :: s6 :: s7 :: []), h) = (K.K s2 h) := by kernel_rfl
theorem q33_normal (s0 s1 s2 s3 s4 s5 s6 s7 : AV) (h : Heap) (K : Kt) : retQ X Try.f33 K .normal ((s0 :: s1 :: s2 :: s3 :: s4 :: s5 :: s6 :: s7 :: []), h) = (K.K s2 h) := by kernel_rfl
theorem i33 (a0 : AV) (h : Heap) (K : Kt) (H : awp X h.length c33_0 (retQ X Try.f33 K) ((a0 :: .bad :: .bad :: .bad :: .bad :: .bad :: .bad :: .bad :: []), h)) : ACall X 33 [a0] h K := acall_intro (fn := Try.f33) (by kernel_rfl) (by kernel_rfl) (by kernel_rfl) H
/-! function 34: (*sindri/cursor.Cursor).next -/
noncomputable def c34_0 : Code := bodyOf Try.f34
noncomputable def c34_1 : Code := cl c34_0
theorem w34_1 (s0 s1 s2 s3 s4 s5 s6 s7 s8 s9 s10 s11 s12 s13 s14 s15 s16 s17 s18 s19 s20 s21 s22 s23 s24 s25 s26 s27 s28 s29 s30 s31 s32 s33 s34 s35 s36 s37 s38 s39 s40 s41 s42 s43 s44 s45 s46 s47 s48 : AV) (n : Nat) (h : Heap) (Q : Qt) : awp X n c34_1 Q ((s0 :: s1 :: s2 :: s3 :: s4 :: s5 :: s6 :: s7 :: s8 :: s9 :: s10 :: s11 :: s12 :: s13 :: s14 :: s15 :: s16 :: s17 :: s18 :: s19 :: s20 :: s21 :: s22 :: s23 :: s24 :: s25 :: s26 :: s27 :: s28 :: s29 :: s30 :: s31 :: s32 :: s33 :: s34 :: s35 :: s36 :: s37 :: s38 :: s39 :: s40 :: s41 :: s42 :: s43 :: s44 :: s45 :: s46 :: s47 :: s48 :: []), h) = (a_mov (.v (.slice none 0 0)) h (.c (fun t4 h1 => Q .normal ((s0 :: s1 :: s2 :: s3 :: t4 :: s5 :: s6 :: s7 :: s8 :: s9 :: s10 :: s11 :: s12 :: s13 :: s14 :: s15 :: s16 :: s17 :: s18 :: s19 :: s20 :: s21 :: s22 :: s23 :: s24 :: s25 :: s26 :: s27 :: s28 :: s29 :: s30 :: s31 :: s32 :: s33 :: s34 :: s35 :: s36 :: s37 :: s38 :: s39 :: s40 :: s41 :: s42 :: s43 :: s44 :: s45 :: s46 :: s47 :: s48 :: []), h1)) ())) := by rw [awp_eq]; kernel_rfl
noncomputable def c34_2 : Code := cr c34_0
noncomputable def c34_3 : Code := cl c34_2
noncomputable def c34_4 : Code := cl c34_3
theorem w34_4 (s0 s1 s2 s3 s4 s5 s6 s7 s8 s9 s10 s11 s12 s13 s14 s15 s16 s17 s18 s19 s20 s21 s22 s23 s24 s25 s26 s27 s28 s29 s30 s31 s32 s33 s34 s35 s36 s37 s38 s39 s40 s41 s42 s43 s44 s45 s46 s47 s48 : AV) (n : Nat) (h : Heap) (Q : Qt) : awp X n c34_4 Q ((s0 :: s1 :: s2 :: s3 :: s4 :: s5 :: s6 :: s7 :: s8 :: s9 :: s10 :: s11 :: s12 :: s13 :: s14 :: s15 :: s16 :: s17 :: s18 :: s19 :: s20 :: s21 :: s22 :: s23 :: s24 :: s25 :: s26 :: s27 :: s28 :: s29 :: s30 :: s31 :: s32 :: s33 :: s34 :: s35 :: s36 :: s37 :: s38 :: s39 :: s40 :: s41 :: s42 :: s43 :: s44 :: s45 :: s46 :: s47 :: s48 :: []), h) = (a_mov s0 h (.c (fun t6 h1 => ACall X 27 [t6] h1 (.c (fun t7 h2 => a_bin .neq t7 (.v (.int .i64 0)) h2 (.c (fun t8 h3 => Q .normal ((s0 :: s1 :: s2 :: s3 :: s4 :: s5 :: t6 :: t7 :: t8 :: s9 :: s10 :: s11 :: s12 :: s13 :: s14 :: s15 :: s16 :: s17 :: s18 :: s19 :: s20 :: s21 :: s22 :: s23 :: s24 :: s25 :: s26 :: s27 :: s28 :: s29 :: s30 :: s31 :: s32 :: s33 :: s34 :: s35 :: s36 :: s37 :: s38 :: s39 :: s40 :: s41 :: s42 :: s43 :: s44 :: s45 :: s46 :: s47 :: s48 :: []), h3)) ())) ())) ())) := by rw [awp_eq]; kernel_rfl
noncomputable def c34_5 : Code := cr c34_3
noncomputable def c34_6 : Code := cl c34_5
noncomputable def c34_7 : Code := cl c34_6
theorem w34_7 (s0 s1 s2 s3 s4 s5 s6 s7 s8 s9 s10 s11 s12 s13 s14 s15 s16 s17 s18 s19 s20 s21 s22 s23 s24 s25 s26 s27 s28 s29 s30 s31 s32 s33 s34 s35 s36 s37 s38 s39 s40 s41 s42 s43 s44 s45 s46 s47 s48 : AV) (n : Nat) (h : Heap) (Q : Qt) : awp X n c34_7 Q ((s0 :: s1 :: s2 :: s3 :: s4 :: s5 :: s6 :: s7 :: s8 :: s9 :: s10 :: s11 :: s12 :: s13 :: s14 :: s15 :: s16 :: s17 :: s18 :: s19 :: s20 :: s21 :: s22 :: s23 :: s24 :: s25 :: s26 :: s27 :: s28 :: s29 :: s30 :: s31 :: s32 :: s33 :: s34 :: s35 :: s36 :: s37 :: s38 :: s39 :: s40 :: s41 :: s42 :: s43 :: s44 :: s45 :: s46 :: s47 :: s48 :: []), h) = (a_mov (.v (.slice none 0 0)) h (.c (fun t4 h1 => Q .normal ((s0 :: s1 :: s2 :: s3 :: t4 :: s5 :: s6 :: s7 :: s8 :: s9 :: s10 :: s11 :: s12 :: s13 :: s14 :: s15 :: s16 :: s17 :: s18 :: s19 :: s20 :: s21 :: s22 :: s23 :: s24 :: s25 :: s26 :: s27 :: s28 :: s29 :: s30 :: s31 :: s32 :: s33 :: s34 :: s35 :: s36 :: s37 :: s38 :: s39 :: s40 :: s41 :: s42 :: s43 :: s44 :: s45 :: s46 :: s47 :: s48 :: []), h1)) ())) := by rw [awp_eq]; kernel_rfl
noncomputable def c34_8 : Code := cr c34_6
theorem w34_8 (n : Nat) (Q : Qt) (st : St) : awp X n c34_8 Q st = Q .ret st := by rw [awp_eq]; kernel_rfl
theorem w34_6 (n : Nat) (Q : Qt) (st : St) : awp X n c34_6 Q st = awp X n c34_7 (thenQ (awp X n c34_8 Q) Q) st := by rw [awp_eq]; kernel_rfl
noncomputable def c34_9 : Code := cr c34_5
theorem w34_9 (n : Nat) (Q : Qt) (st : St) : awp X n c34_9 Q st = Q .normal st := by rw [awp_eq]; kernel_rfl
theorem w34_5 (s0 s1 s2 s3 s4 s5 s6 s7 s8 s9 s10 s11 s12 s13 s14 s15 s16 s17 s18 s19 s20 s21 s22 s23 s24 s25 s26 s27 s28 s29 s30 s31 s32 s33 s34 s35 s36 s37 s38 s39 s40 s41 s42 s43 s44 s45 s46 s47 s48 : AV) (n : Nat) (h : Heap) (Q : Qt) : awp X n c34_5 Q ((s0 :: s1 :: s2 :: s3 :: s4 :: s5 :: s6 :: s7 :: s8 :: s9 :: s10 :: s11 :: s12 :: s13 :: s14 :: s15 :: s16 :: s17 :: s18 :: s19 :: s20 :: s21 :: s22 :: s23 :: s24 :: s25 :: s26 :: s27 :: s28 :: s29 :: s30 :: s31 :: s32 :: s33 :: s34 :: s35 :: s36 :: s37 :: s38 :: s39 :: s40 :: s41 :: s42 :: s43 :: s44 :: s45 :: s46 :: s47 :: s48 :: []), h) = a_cond s8 (awp X n c34_6 Q ((s0 :: s1 :: s2 :: s3 :: s4 :: s5 :: s6 :: s7 :: s8 :: s9 :: s10 :: s11 :: s12 :: s13 :: s14 :: s15 :: s16 :: s17 :: s18 :: s19 :: s20 :: s21 :: s22 :: s23 :: s24 :: s25 :: s26 :: s27 :: s28 :: s29 :: s30 :: s31 :: s32 :: s33 :: s34 :: s35 :: s36 :: s37 :: s38 :: s39 :: s40 :: s41 :: s42 :: s43 :: s44 :: s45 :: s46 :: s47 :: s48 :: []), h)) (awp X n c34_9 Q ((s0 :: s1 :: s2 :: s3 :: s4 :: s5 :: s6 :: s7 :: s8 :: s9 :: s10 :: s11 :: s12 :: s13 :: s14 :: s15 :: s16 :: s17 :: s18 :: s19 :: s20 :: s21 :: s22 :: s23 :: s24 :: s25 :: s26 :: s27 :: s28 :: s29 :: s30 :: s31 :: s32 :: s33 :: s34 :: s35 :: s36 :: s37 :: s38 :: s39 :: s40 :: s41 :: s42 :: s43 :: s44 :: s45 :: s46 :: s47 :: s48 :: []), h)) := by rw [awp_eq]; kernel_rfl
theorem w34_3 (n : Nat) (Q : Qt) (st : St) : awp X n c34_3 Q st = awp X n c34_4 (thenQ (awp X n c34_5 Q) Q) st := by rw [awp_eq]; kernel_rfl
noncomputable def c34_10 : Code := cr c34_2
noncomputable def c34_11 : Code := cl c34_10
noncomputable def c34_12 : Code := cl c34_11
theorem w34_12 (s0 s1 s2 s3 s4 s5 s6 s7 s8 s9 s10 s11 s12 s13 s14 s15 s16 s17 s18 s19 s20 s21 s22 s23 s24 s25 s26 s27 s28 s29 s30 s31 s32 s33 s34 s35 s36 s37 s38 s39 s40 s41 s42 s43 s44 s45 s46 s47 s48 : AV) (n : Nat) (h : Heap) (Q : Qt) : awp X n c34_12 Q ((s0 :: s1 :: s2 :: s3 :: s4 :: s5 :: s6 :: s7 :: s8 :: s9 :: s10 :: s11 :: s12 :: s13 :: s14 :: s15 :: s16 :: s17 :: s18 :: s19 :: s20 :: s21 :: s22 :: s23 :: s24 :: s25 :: s26 :: s27 :: s28 :: s29 :: s30 :: s31 :: s32 :: s33 :: s34 :: s35 :: s36 :: s37 :: s38 :: s39 :: s40 :: s41 :: s42 :: s43 :: s44 :: s45 :: s46 :: s47 :: s48 :: []), h) = (a_mov s1 h (.c (fun t9 h1 => a_mov s0 h1 (.c (fun t10 h2 => ACall X 15 [t10] h2 (.c (fun t11 h3 => a_cint .u64 t11 h3 (.c (fun t12 h4 => a_bin .gtr t9 t12 h4 (.c (fun t13 h5 => Q .normal ((s0 :: s1 :: s2 :: s3 :: s4 :: s5 :: s6 :: s7 :: s8 :: t9 :: t10 :: t11 :: t12 :: t13 :: s14 :: s15 :: s16 :: s17 :: s18 :: s19 :: s20 :: s21 :: s22 :: s23 :: s24 :: s25 :: s26 :: s27 :: s28 :: s29 :: s30 :: s31 :: s32 :: s33 :: s34 :: s35 :: s36 :: s37 :: s38 :: s39 :: s40 :: s41 :: s42 :: s43 :: s44 :: s45 :: s46 :: s47 :: s48 :: []), h5)) ())) ())) ())) ())) ())) := by rw [awp_eq]; kernel_rfl
noncomputable def c34_13 : Code := cr c34_11
noncomputable def c34_14 : Code := cl c34_13
noncomputable def c34_15 : Code := cl c34_14
theorem w34_15 (s0 s1 s2 s3 s4 s5 s6 s7 s8 s9 s10 s11 s12 s13 s14 s15 s16 s17 s18 s19 s20 s21 s22 s23 s24 s25 s26 s27 s28 s29 s30 s31 s32 s33 s34 s35 s36 s37 s38 s39 s40 s41 s42 s43 s44 s45 s46 s47 s48 : AV) (n : Nat) (h : Heap) (Q : Qt) : awp X n c34_15 Q ((s0 :: s1 :: s2 :: s3 :: s4 :: s5 :: s6 :: s7 :: s8 :: s9 :: s10 :: s11 :: s12 :: s13 :: s14 :: s15 :: s16 :: s17 :: s18 :: s19 :: s20 :: s21 :: s22 :: s23 :: s24 :: s25 :: s26 :: s27 :: s28 :: s29 :: s30 :: s31 :: s32 :: s33 :: s34 :: s35 :: s36 :: s37 :: s38 :: s39 :: s40 :: s41 :: s42 :: s43 :: s44 :: s45 :: s46 :: s47 :: s48 :: []), h) = (a_mov s0 h (.c (fun t14 h1 => ACall X 35 [t14, (.v (.int .i64 10))] h1 (.c (fun t15 h2 => Q .normal ((s0 :: s1 :: s2 :: s3 :: s4 :: s5 :: s6 :: s7 :: s8 :: s9 :: s10 :: s11 :: s12 :: s13 :: t14 :: t15 :: s16 :: s17 :: s18 :: s19 :: s20 :: s21 :: s22 :: s23 :: s24 :: s25 :: s26 :: s27 :: s28 :: s29 :: s30 :: s31 :: s32 :: s33 :: s34 :: s35 :: s36 :: s37 :: s38 :: s39 :: s40 :: s41 :: s42 :: s43 :: s44 :: s45 :: s46 :: s47 :: s48 :: []), h2)) ())) ())) := by rw [awp_eq]; kernel_rfl
noncomputable def c34_16 : Code := cr c34_14
noncomputable def c34_17 : Code := cl c34_16
theorem w34_17 (s0 s1 s2 s3 s4 s5 s6 s7 s8 s9 s10 s11 s12 s13 s14 s15 s16 s17 s18 s19 s20 s21 s22 s23 s24 s25 s26 s27 s28 s29 s30 s31 s32 s33 s34 s35 s36 s37 s38 s39 s40 s41 s42 s43 s44 s45 s46 s47 s48 : AV) (n : Nat) (h : Heap) (Q : Qt) : awp X n c34_17 Q ((s0 :: s1 :: s2 :: s3 :: s4 :: s5 :: s6 :: s7 :: s8 :: s9 :: s10 :: s11 :: s12 :: s13 :: s14 :: s15 :: s16 :: s17 :: s18 :: s19 :: s20 :: s21 :: s22 :: s23 :: s24 :: s25 :: s26 :: s27 :: s28 :: s29 :: s30 :: s31 :: s32 :: s33 :: s34 :: s35 :: s36 :: s37 :: s38 :: s39 :: s40 :: s41 :: s42 :: s43 :: s44 :: s45 :: s46 :: s47 :: s48 :: []), h) = (a_mov (.v (.slice none 0 0)) h (.c (fun t4 h1 => Q .normal ((s0 :: s1 :: s2 :: s3 :: t4 :: s5 :: s6 :: s7 :: s8 :: s9 :: s10 :: s11 :: s12 :: s13 :: s14 :: s15 :: s16 :: s17 :: s18 :: s19 :: s20 :: s21 :: s22 :: s23 :: s24 :: s25 :: s26 :: s27 :: s28 :: s29 :: s30 :: s31 :: s32 :: s33 :: s34 :: s35 :: s36 :: s37 :: s38 :: s39 :: s40 :: s41 :: s42 :: s43 :: s44 :: s45 :: s46 :: s47 :: s48 :: []), h1)) ())) := by rw [awp_eq]; kernel_rfl
noncomputable def c34_18 : Code := cr c34_16
theorem w34_18 (n : Nat) (Q : Qt) (st : St) : awp X n c34_18 Q st = Q .ret st := by rw [awp_eq]; kernel_rfl
theorem w34_16 (n : Nat) (Q : Qt) (st : St) : awp X n c34_16 Q st = awp X n c34_17 (thenQ (awp X n c34_18 Q) Q) st := by rw [awp_eq]; kernel_rfl
theorem w34_14 (n : Nat) (Q : Qt) (st : St) : awp X n c34_14 Q st = awp X n c34_15 (thenQ (awp X n c34_16 Q) Q) st := by rw [awp_eq]; kernel_rfl
noncomputable def c34_19 : Code := cr c34_13
theorem w34_19 (n : Nat) (Q : Qt) (st : St) : awp X n c34_19 Q st = Q .normal st := by rw [awp_eq]; kernel_rfl
theorem w34_13 (s0 s1 s2 s3 s4 s5 s6 s7 s8 s9 s10 s11 s12 s13 s14 s15 s16 s17 s18 s19 s20 s21 s22 s23 s24 s25 s26 s27 s28 s29 s30 s31 s32 s33 s34 s35 s36 s37 s38 s39 s40 s41 s42 s43 s44 s45 s46 s47 s48 : AV) (n : Nat) (h : Heap) (Q : Qt) : awp X n c34_13 Q ((s0 :: s1 :: s2 :: s3 :: s4 :: s5 :: s6 :: s7 :: s8 :: s9 :: s10 :: s11 :: s12 :: s13 :: s14 :: s15 :: s16 :: s17 :: s18 :: s19 :: s20 :: s21 :: s22 :: s23 :: s24 :: s25 :: s26 :: s27 :: s28 :: s29 :: s30 :: s31 :: s32 :: s33 :: s34 :: s35 :: s36 :: s37 :: s38 :: s39 :: s40 :: s41 :: s42 :: s43 :: s44 :: s45 :: s46 :: s47 :: s48 :: []), h) = a_cond s13 (awp X n c34_14 Q ((s0 :: s1 :: s2 :: s3 :: s4 :: s5 :: s6 :: s7 :: s8 :: s9 :: s10 :: s11 :: s12 :: s13 :: s14 :: s15 :: s16 :: s17 :: s18 :: s19 :: s20 :: s21 :: s22 :: s23 :: s24 :: s25 :: s26 :: s27 :: s28 :: s29 :: s30 :: s31 :: s32 :: s33 :: s34 :: s35 :: s36 :: s37 :: s38 :: s39 :: s40 :: s41 :: s42 :: s43 :: s44 :: s45 :: s46 :: s47 :: s48 :: []), h)) (awp X n c34_19 Q ((s0 :: s1 :: s2 :: s3 :: s4 :: s5 :: s6 :: s7 :: s8 :: s9 :: s10 :: s11 :: s12 :: s13 :: s14 :: s15 :: s16 :: s17 :: s18 :: s19 :: s20 :: s21 :: s22 :: s23 :: s24 :: s25 :: s26 :: s27 :: s28 :: s29 :: s30 :: s31 :: s32 :: s33 :: s34 :: s35 :: s36 :: s37 :: s38 :: s39 :: s40 :: s41 :: s42 :: s43 :: s44 :: s45 :: s46 :: s47 :: s48 :: []), h)) := by rw [awp_eq]; kernel_rfl
theorem w34_11 (n : Nat) (Q : Qt) (st : St) : awp X n c34_11 Q st = awp X n c34_12 (thenQ (awp X n c34_13 Q) Q) st := by rw [awp_eq]; kernel_rfl
noncomputable def c34_20 : Code := cr c34_10
noncomputable def c34_21 : Code := cl c34_20
theorem w34_21 (s0 s1 s2 s3 s4 s5 s6 s7 s8 s9 s10 s11 s12 s13 s14 s15 s16 s17 s18 s19 s20 s21 s22 s23 s24 s25 s26 s27 s28 s29 s30 s31 s32 s33 s34 s35 s36 s37 s38 s39 s40 s41 s42 s43 s44 s45 s46 s47 s48 : AV) (n : Nat) (h : Heap) (Q : Qt) : awp X n c34_21 Q ((s0 :: s1 :: s2 :: s3 :: s4 :: s5 :: s6 :: s7 :: s8 :: s9 :: s10 :: s11 :: s12 :: s13 :: s14 :: s15 :: s16 :: s17 :: s18 :: s19 :: s20 :: s21 :: s22 :: s23 :: s24 :: s25 :: s26 :: s27 :: s28 :: s29 :: s30 :: s31 :: s32 :: s33 :: s34 :: s35 :: s36 :: s37 :: s38 :: s39 :: s40 :: s41 :: s42 :: s43 :: s44 :: s45 :: s46 :: s47 :: s48 :: []), h) = (a_mov s0 h (.c (fun t16 h1 => a_nilc t16 h1 (.c (fun t17 h2 => a_fa 0 t17 h2 (.c (fun t18 h3 => a_load 1 false t18 h3 (.c (fun t19 h4 => a_mov s0 h4 (.c (fun t20 h5 => a_nilc t20 h5 (.c (fun t21 h6 => a_fa 1 t21 h6 (.c (fun t22 h7 => a_load 1 false t22 h7 (.c (fun t23 h8 => a_mov s0 h8 (.c (fun t24 h9 => a_nilc t24 h9 (.c (fun t25 h10 => a_fa 1 t25 h10 (.c (fun t26 h11 => a_load 1 false t26 h11 (.c (fun t27 h12 => a_mov s1 h12 (.c (fun t28 h13 => a_cint .i64 t28 h13 (.c (fun t29 h14 => a_bin .add t27 t29 h14 (.c (fun t30 h15 => a_mov s0 h15 (.c (fun t31 h16 => a_nilc t31 h16 (.c (fun t32 h17 => a_fa 1 t32 h17 (.c (fun t33 h18 => a_load 1 false t33 h18 (.c (fun t34 h19 => a_mov s1 h19 (.c (fun t35 h20 => a_cint .i64 t35 h20 (.c (fun t36 h21 => a_bin .add t34 t36 h21 (.c (fun t37 h22 => a_slice 1 t19 (some t23) (some t30) (some t37) h22 (.c (fun t38 h23 => a_mov t38 h23 (.c (fun t5 h24 => Q .normal ((s0 :: s1 :: s2 :: s3 :: s4 :: t5 :: s6 :: s7 :: s8 :: s9 :: s10 :: s11 :: s12 :: s13 :: s14 :: s15 :: t16 :: t17 :: t18 :: t19 :: t20 :: t21 :: t22 :: t23 :: t24 :: t25 :: t26 :: t27 :: t28 :: t29 :: t30 :: t31 :: t32 :: t33 :: t34 :: t35 :: t36 :: t37 :: t38 :: s39 :: s40 :: s41 :: s42 :: s43 :: s44 :: s45 :: s46 :: s47 :: s48 :: []), h24)) ())) ())) ())) ())) ())) ())) ())) ())) ())) ())) ())) ())) ())) ())) ())) ())) ())) ())) ())) ())) ())) ())) ())) ())) := by rw [awp_eq]; kernel_rfl
noncomputable def c34_22 : Code := cr c34_20
noncomputable def c34_23 : Code := cl c34_22
theorem w34_23 (s0 s1 s2 s3 s4 s5 s6 s7 s8 s9 s10 s11 s12 s13 s14 s15 s16 s17 s18 s19 s20 s21 s22 s23 s24 s25 s26 s27 s28 s29 s30 s31 s32 s33 s34 s35 s36 s37 s38 s39 s40 s41 s42 s43 s44 s45 s46 s47 s48 : AV) (n : Nat) (h : Heap) (Q : Qt) : awp X n c34_23 Q ((s0 :: s1 :: s2 :: s3 :: s4 :: s5 :: s6 :: s7 :: s8 :: s9 :: s10 :: s11 :: s12 :: s13 :: s14 :: s15 :: s16 :: s17 :: s18 :: s19 :: s20 :: s21 :: s22 :: s23 :: s24 :: s25 :: s26 :: s27 :: s28 :: s29 :: s30 :: s31 :: s32 :: s33 :: s34 :: s35 :: s36 :: s37 :: s38 :: s39 :: s40 :: s41 :: s42 :: s43 :: s44 :: s45 :: s46 :: s47 :: s48 :: []), h) = (a_mov s0 h (.c (fun t39 h1 => a_nilc t39 h1 (.c (fun t40 h2 => a_fa 1 t40 h2 (.c (fun t41 h3 => a_load 1 false t41 h3 (.c (fun t42 h4 => a_mov s1 h4 (.c (fun t43 h5 => a_cint .i64 t43 h5 (.c (fun t44 h6 => a_bin .add t42 t44 h6 (.c (fun t45 h7 => a_nilc t39 h7 (.c (fun t46 h8 => a_fa 1 t46 h8 (.c (fun t47 h9 => a_store 1 t47 t45 h9 (.c (fun _v9 h10 => Q .normal ((s0 :: s1 :: s2 :: s3 :: s4 :: s5 :: s6 :: s7 :: s8 :: s9 :: s10 :: s11 :: s12 :: s13 :: s14 :: s15 :: s16 :: s17 :: s18 :: s19 :: s20 :: s21 :: s22 :: s23 :: s24 :: s25 :: s26 :: s27 :: s28 :: s29 :: s30 :: s31 :: s32 :: s33 :: s34 :: s35 :: s36 :: s37 :: s38 :: t39 :: t40 :: t41 :: t42 :: t43 :: t44 :: t45 :: t46 :: t47 :: s48 :: []), h10)) ())) ())) ())) ())) ())) ())) ())) ())) ())) ())) := by rw [awp_eq]; kernel_rfl
noncomputable def c34_24 : Code := cr c34_22
noncomputable def c34_25 : Code := cl c34_24
theorem w34_25 (s0 s1 s2 s3 s4 s5 s6 s7 s8 s9 s10 s11 s12 s13 s14 s15 s16 s17 s18 s19 s20 s21 s22 s23 s24 s25 s26 s27 s28 s29 s30 s31 s32 s33 s34 s35 s36 s37 s38 s39 s40 s41 s42 s43 s44 s45 s46 s47 s48 : AV) (n : Nat) (h : Heap) (Q : Qt) : awp X n c34_25 Q ((s0 :: s1 :: s2 :: s3 :: s4 :: s5 :: s6 :: s7 :: s8 :: s9 :: s10 :: s11 :: s12 :: s13 :: s14 :: s15 :: s16 :: s17 :: s18 :: s19 :: s20 :: s21 :: s22 :: s23 :: s24 :: s25 :: s26 :: s27 :: s28 :: s29 :: s30 :: s31 :: s32 :: s33 :: s34 :: s35 :: s36 :: s37 :: s38 :: s39 :: s40 :: s41 :: s42 :: s43 :: s44 :: s45 :: s46 :: s47 :: s48 :: []), h) = (a_mov s5 h (.c (fun t48 h1 => a_mov t48 h1 (.c (fun t4 h2 => Q .normal ((s0 :: s1 :: s2 :: s3 :: t4 :: s5 :: s6 :: s7 :: s8 :: s9 :: s10 :: s11 :: s12 :: s13 :: s14 :: s15 :: s16 :: s17 :: s18 :: s19 :: s20 :: s21 :: s22 :: s23 :: s24 :: s25 :: s26 :: s27 :: s28 :: s29 :: s30 :: s31 :: s32 :: s33 :: s34 :: s35 :: s36 :: s37 :: s38 :: s39 :: s40 :: s41 :: s42 :: s43 :: s44 :: s45 :: s46 :: s47 :: t48 :: []), h2)) ())) ())) := by rw [awp_eq]; kernel_rfl
noncomputable def c34_26 : Code := cr c34_24
theorem w34_26 (n : Nat) (Q : Qt) (st : St) : awp X n c34_26 Q st = Q .ret st := by rw [awp_eq]; kernel_rfl
theorem w34_24 (n : Nat) (Q : Qt) (st : St) : awp X n c34_24 Q st = awp X n c34_25 (thenQ (awp X n c34_26 Q) Q) st := by rw [awp_eq]; kernel_rfl
theorem w34_22 (n : Nat) (Q : Qt) (st : St) : awp X n c34_22 Q st = awp X n c34_23 (thenQ (awp X n c34_24 Q) Q) st := by rw [awp_eq]; kernel_rfl
theorem w34_20 (n : Nat) (Q : Qt) (st : St) : awp X n c34_20 Q st = awp X n c34_21 (thenQ (awp X n c34_22 Q) Q) st := by rw [awp_eq]; kernel_rfl
theorem w34_10 (n : Nat) (Q : Qt) (st : St) : awp X n c34_10 Q st = awp X n c34_11 (thenQ (awp X n c34_20 Q) Q) st := by rw [awp_eq]; kernel_rfl
theorem w34_2 (n : Nat) (Q : Qt) (st : St) : awp X n c34_2 Q st = awp X n c34_3 (thenQ (awp X n c34_10 Q) Q) st := by rw [awp_eq]; kernel_rfl
theorem w34_0 (n : Nat) (Q : Qt) (st : St) : awp X n c34_0 Q st = awp X n c34_1 (thenQ (awp X n c34_2 Q) Q) st := by rw [awp_eq]; kernel_rfl
theorem q34_ret (s0 s1 s2 s3 s4 s5 s6 s7 s8 s9 s10 s11 s12 s13 s14 s15 s16 s17 s18 s19 s20 s21 s22 s23 s24 s25 s26 s27 s28 s29 s30 s31 s32 s33 s34 s35 s36 s37 s38 s39 s40 s41 s42 s43 s44 s45 s46 s47 s48 : AV) (h : Heap) (K : Kt) : retQ X Try.f34 K .ret ((s0 :: s1 :: s2 :: s3 :: s4 :: s5 :: s6 :: s7 :: s8 :: s9 :: s10 :: s11 :: s12 :: s13 :: s14 :: s15 :: s16 :: s17 :: s18 :: s19 :: s20 :: s21 :: s22 :: s23 :: s24 :: s25 :: s26 :: s27 :: s28 :: s29 :: s30 :: s31 :: s32 :: s33 :: s34 :: s35 :: s36 :: s37 :: s38 :: s39 :: s40 :: s41 :: s42 :: s43 :: s44 :: s45 :: s46 :: s47 :: s48 :: []), h) = (K.K s4 h) := by kernel_rfl
theorem q34_normal (s0 s1 s2 s3 s4 s5 s6 s7 s8 s9 s10 s11 s12 s13 s14 s15 s16 s17 s18 s19 s20 s21 s22 s23 s24 s25 s26 s27 s28 s29 s30 s31 s32 s33 s34 s35 s36 s37 s38 s39 s40 s41 s42 s43 s44 s45 s46 s47 s48 : AV) (h : Heap) (K : Kt) : retQ X Try.f34 K .normal ((s0 :: s1 :: s2 :: s3 :: s4 :: s5 :: s6 :: s7 :: s8 :: s9 :: s10 :: s11 :: s12 :: s13 :: s14 :: s15 :: s16 :: s17 :: s18 :: s19 :: s20 :: s21 :: s22 :: s23 :: s24 :: s25 :: s26 :: s27 :: s28 :: s29 :: s30 :: s31 :: s32 :: s33 :: s34 :: s35 :: s36 :: s37 :: s38 :: s39 :: s40 :: s41 :: s42 :: s43 :: s44 :: s45 :: s46 :: s47 :: s48 :: []), h) = (K.K s4 h) := by kernel_rfl
theorem i34 (a0 a1 : AV) (h : Heap) (K : Kt) (H : awp X h.length c34_0 (retQ X Try.f34 K) ((a0 :: a1 :: .bad :: .bad :: .bad :: .bad :: .bad :: .bad :: .bad :: .bad :: .bad :: .bad :: .bad :: .bad :: .bad :: .bad :: .bad :: .bad :: .bad :: .bad :: .bad :: .bad :: .bad :: .bad :: .bad :: .bad :: .bad :: .bad :: .bad :: .bad :: .bad :: .bad :: .bad :: .bad :: .bad :: .bad :: .bad :: .bad :: .bad :: .bad :: .bad :: .bad :: .bad :: .bad :: .bad :: .bad :: .bad :: .bad :: .bad :: []), h)) : ACall X 34 [a0, a1] h K := acall_intro (fn := Try.f34) (by kernel_rfl) (by kernel_rfl) (by kernel_rfl) H
/-! function 35: (*sindri/cursor.Cursor).Fail -/
noncomputable def c35_0 : Code := bodyOf Try.f35
noncomputable def c35_1 : Code := cl c35_0
theorem w35_1 (s0 s1 s2 s3 s4 s5 s6 s7 s8 s9 s10 : AV) (n : Nat) (h : Heap) (Q : Qt) : awp X n c35_1 Q ((s0 :: s1 :: s2 :: s3 :: s4 :: s5 :: s6 :: s7 :: s8 :: s9 :: s10 :: []), h) = (a_mov s0 h (.c (fun t4 h1 => ACall X 27 [t4] h1 (.c (fun t5 h2 => a_bin .eql t5 (.v (.int .i64 0)) h2 (.c (fun t6 h3 => Q .normal ((s0 :: s1 :: s2 :: s3 :: t4 :: t5 :: t6 :: s7 :: s8 :: s9 :: s10 :: []), h3)) ())) ())) ())) := by rw [awp_eq]; kernel_rfl
noncomputable def c35_2 : Code := cr c35_0
noncomputable def c35_3 : Code := cl c35_2
theorem w35_3 (s0 s1 s2 s3 s4 s5 s6 s7 s8 s9 s10 : AV) (n : Nat) (h : Heap) (Q : Qt) : awp X n c35_3 Q ((s0 :: s1 :: s2 :: s3 :: s4 :: s5 :: s6 :: s7 :: s8 :: s9 :: s10 :: []), h) = (a_mov s0 h (.c (fun t7 h1 => a_mov s1 h1 (.c (fun t8 h2 => a_nilc t7 h2 (.c (fun t9 h3 => a_fa 3 t9 h3 (.c (fun t10 h4 => a_store 1 t10 t8 h4 (.c (fun _v4 h5 => Q .normal ((s0 :: s1 :: s2 :: s3 :: s4 :: s5 :: s6 :: t7 :: t8 :: t9 :: t10 :: []), h5)) ())) ())) ())) ())) ())) := by rw [awp_eq]; kernel_rfl
noncomputable def c35_4 : Code := cr c35_2
theorem w35_4 (n : Nat) (Q : Qt) (st : St) : awp X n c35_4 Q st = Q .normal st := by rw [awp_eq]; kernel_rfl
theorem w35_2 (s0 s1 s2 s3 s4 s5 s6 s7 s8 s9 s10 : AV) (n : Nat) (h : Heap) (Q : Qt) : awp X n c35_2 Q ((s0 :: s1 :: s2 :: s3 :: s4 :: s5 :: s6 :: s7 :: s8 :: s9 :: s10 :: []), h) = a_cond s6 (awp X n c35_3 Q ((s0 :: s1 :: s2 :: s3 :: s4 :: s5 :: s6 :: s7 :: s8 :: s9 :: s10 :: []), h)) (awp X n c35_4 Q ((s0 :: s1 :: s2 :: s3 :: s4 :: s5 :: s6 :: s7 :: s8 :: s9 :: s10 :: []), h)) := by rw [awp_eq]; kernel_rfl
theorem w35_0 (n : Nat) (Q : Qt) (st : St) : awp X n c35_0 Q st = awp X n c35_1 (thenQ (awp X n c35_2 Q) Q) st := by rw [awp_eq]; kernel_rfl
theorem q35_ret (s0 s1 s2 s3 s4 s5 s6 s7 s8 s9 s10 : AV) (h : Heap) (K : Kt) : retQ X Try.f35 K .ret ((s0 :: s1 :: s2 :: s3 :: s4 :: s5 :: s6 :: s7 :: s8 :: s9 :: s10 :: []), h) = (K.K (.t []) h) := by kernel_rfl
theorem q35_normal (s0 s1 s2 s3 s4 s5 s6 s7 s8 s9 s10 : AV) (h : Heap) (K : Kt) : retQ X Try.f35 K .normal ((s0 :: s1 :: s2 :: s3 :: s4 :: s5 :: s6 :: s7 :: s8 :: s9 :: s10 :: []), h) = (K.K (.t []) h) := by kernel_rfl
theorem i35 (a0 a1 : AV) (h : Heap) (K : Kt) (H : awp X h.length c35_0 (retQ X Try.f35 K) ((a0 :: a1 :: .bad :: .bad :: .bad :: .bad :: .bad :: .bad :: .bad :: .bad :: .bad :: []), h)) : ACall X 35 [a0, a1] h K := acall_intro (fn := Try.f35) (by kernel_rfl) (by kernel_rfl) (by kernel_rfl) H
end Go.Proofs.Ytknhhbbgcjidmaa
