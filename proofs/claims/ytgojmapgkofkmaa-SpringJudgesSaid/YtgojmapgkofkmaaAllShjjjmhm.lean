/- Texts of this claim, put together: Sh0, Sh1 -/
import Derived.Test.YtgojmapgkofkmaaAllFwddlidb
import Derived.Test.YtgojmapgkofkmaaProg
/- What functions of the program do, as Lean functions; that the machine does just that. Printed by shal.py, a program of this claim's writer. -/
set_option maxRecDepth 100000
set_option linter.unusedVariables false
namespace Go.Sh
open Go.Fw Go.Proofs.Try
def z26 : Array Value := Array.replicate 2 (.int .i64 0)
def z29 : Array Value := Array.replicate 15 (.int .i64 0)
def z30 : Array Value := Array.replicate 2 (.int .i64 0)
def z33 : Array Value := Array.replicate 15 (.int .i64 0)
def z54 : Array Value := Array.replicate 256 (.int .i64 0)
def z57 : Array Value := Array.replicate 16 (.int .i64 0)
def z62 : Array Value := ([.complex .f64 0 0] : List Value).toArray
def str0 : ByteArray := ⟨#[0, 1, 1, 2, 1, 2, 2, 3, 1, 2, 2, 3, 2, 3, 3, 4, 1, 2, 2, 3, 2, 3, 3, 4, 2, 3, 3, 4, 3, 4, 4, 5, 1, 2, 2, 3, 2, 3, 3, 4, 2, 3, 3, 4, 3, 4, 4, 5, 2, 3, 3, 4, 3, 4, 4, 5, 3, 4, 4, 5, 4, 5, 5, 6, 1, 2, 2, 3, 2, 3, 3, 4, 2, 3, 3, 4, 3, 4, 4, 5, 2, 3, 3, 4, 3, 4, 4, 5, 3, 4, 4, 5, 4, 5, 5, 6, 2, 3, 3, 4, 3, 4, 4, 5, 3, 4, 4, 5, 4, 5, 5, 6, 3, 4, 4, 5, 4, 5, 5, 6, 4, 5, 5, 6, 5, 6, 6, 7, 1, 2, 2, 3, 2, 3, 3, 4, 2, 3, 3, 4, 3, 4, 4, 5, 2, 3, 3, 4, 3, 4, 4, 5, 3, 4, 4, 5, 4, 5, 5, 6, 2, 3, 3, 4, 3, 4, 4, 5, 3, 4, 4, 5, 4, 5, 5, 6, 3, 4, 4, 5, 4, 5, 5, 6, 4, 5, 5, 6, 5, 6, 6, 7, 2, 3, 3, 4, 3, 4, 4, 5, 3, 4, 4, 5, 4, 5, 5, 6, 3, 4, 4, 5, 4, 5, 5, 6, 4, 5, 5, 6, 5, 6, 6, 7, 3, 4, 4, 5, 4, 5, 5, 6, 4, 5, 5, 6, 5, 6, 6, 7, 4, 5, 5, 6, 5, 6, 6, 7, 5, 6, 6, 7, 6, 7, 7, 8]⟩

noncomputable def law06_num_R : List (Nat × RE) := []
theorem law06_num_Rok : REnv.Ok prog (tab (law06_num_R)) := (REnv.nil _)
/-- coffer/cofferlaw06.num -/
noncomputable def law06_num (e0 : Int) : Option (Int × Unit) :=
  some (e0, ())
theorem law06_num_facts : FunFacts prog 7 f7 (bodyOf f7) [(0, .int .i64)] [(0, 4)] := ⟨func7, by kernel_rfl, by kernel_rfl, by kernel_rfl, by kernel_rfl, by kernel_rfl⟩
theorem law06_num_calls (x : TT [(0, .int .i64)]) (w : World) (y : TR [.int .i64]) (h : law06_num x.1 = some y) : Calls prog 7 (encA [(0, .int .i64)] x).toArray w (fun e w3 => e = .returned (resV (encR [.int .i64] y)) ∧ w3 = w) :=
    mk_funQ (O := tabL []) (Lp := [(0, .int .i64)]) (Rt := [.int .i64]) (S := (fun x w => law06_num x.1)) (law06_num_Rok) law06_num_facts (OrcQ.nil _ _ _) (fun _ _ => by kernel_rfl) x w y h
noncomputable def law06_num_re : RE := funR [(0, .int .i64)] [.int .i64] (fun x w => law06_num x.1)
theorem law06_num_ok : (law06_num_re).Ok prog 7 := funR_ok (Rt := [.int .i64]) (S := (fun x w => law06_num x.1)) law06_num_facts fun x w y h => law06_num_calls x w y h

noncomputable def law06_SpringNames_R : List (Nat × RE) := [(7, law06_num_re)]
theorem law06_SpringNames_Rok : REnv.Ok prog (tab (law06_SpringNames_R)) := (REnv.cons (law06_num_ok) (REnv.nil _))
/-- coffer/cofferlaw06.SpringNames -/
noncomputable def law06_SpringNames  : Option (Bool × Unit) :=
  (law06_num 60).bind fun r_1 =>
  if (r_1.1 == 60) = true then ((law06_num 61).bind fun r_2 =>
  if (r_2.1 == 61) = true then ((law06_num 62).bind fun r_3 =>
  some ((r_3.1 == 62), ())) else (some (false, ()))) else (some (false, ()))
theorem law06_SpringNames_facts : FunFacts prog 3 f3 (bodyOf f3) [] [(0, 13)] := ⟨func3, by kernel_rfl, by kernel_rfl, by kernel_rfl, by kernel_rfl, by kernel_rfl⟩
theorem law06_SpringNames_calls (x : TT []) (w : World) (y : TR [.bool]) (h : law06_SpringNames  = some y) : Calls prog 3 (encA [] x).toArray w (fun e w3 => e = .returned (resV (encR [.bool] y)) ∧ w3 = w) :=
    mk_funQ (O := tabL []) (Lp := []) (Rt := [.bool]) (S := (fun x w => law06_SpringNames )) (law06_SpringNames_Rok) law06_SpringNames_facts (OrcQ.nil _ _ _) (fun _ _ => by kernel_rfl) x w y h
noncomputable def law06_SpringNames_re : RE := funR [] [.bool] (fun x w => law06_SpringNames )
theorem law06_SpringNames_ok : (law06_SpringNames_re).Ok prog 3 := funR_ok (Rt := [.bool]) (S := (fun x w => law06_SpringNames )) law06_SpringNames_facts fun x w y h => law06_SpringNames_calls x w y h

noncomputable def spring_can_E (K : Nat) : List (Nat × CE) := []
theorem spring_can_Eok (K : Nat) : Env.Ok prog (tab (spring_can_E K)) := (Env.nil _)
noncomputable def spring_can_R (K : Nat) : List (Nat × RE) := []
theorem spring_can_Rok (K : Nat) : REnv.Ok prog (tab (spring_can_R K)) := (REnv.nil _)
noncomputable def spring_can_s0 (K : Nat) (h1 : Addr) (w : World) : Option ((Bool × Unit) × World) :=
  (ldI .i64 (h1.add 0) w).bind fun v_3 =>
  if (decide (v_3 < 64)) = true then (some ((true, ()), w)) else ((ldI .i64 (h1.add 0) w).bind fun v_4 =>
  some (((decide (v_4 > 1048576)), ()), w))
noncomputable def spring_can_l1_b (K : Nat) (rec : Addr → Int → Array Value → Int → World → Option ((Out (Unit) (Bool × Unit)) × World)) (h1 : Addr) (c3 : Int) (a17 : Array Value) (a18 : Int) (w : World) : Option ((Out (Unit) (Bool × Unit)) × World) :=
  if (decide (a18 < 4)) = true then (if (0 : Int) ≤ a18 ∧ a18 < ((4 : Nat) : Int) then (bnd (newB z26 26 w) fun w_9 w_10 =>
  if ((a17.extract ((Int.toNat a18) * 2) (((Int.toNat a18) * 2) + 2))).size = 2 then ((stA w_9 (a17.extract ((Int.toNat a18) * 2) (((Int.toNat a18) * 2) + 2)) w_10).bind fun w_11 =>
  (ldI .i64 (w_9.add 0) w_11).bind fun v_12 =>
  if (decide (v_12 < (IntKind.i64.wrap (0 - c3)))) = true then (some (.ret (false, ()), w_11)) else ((ldI .i64 (w_9.add 0) w_11).bind fun v_13 =>
  if (decide (v_13 > c3)) = true then (some (.ret (false, ()), w_11)) else ((ldI .i64 (w_9.add 1) w_11).bind fun v_14 =>
  if (decide (v_14 < (IntKind.i64.wrap (0 - c3)))) = true then (some (.ret (false, ()), w_11)) else ((ldI .i64 (w_9.add 1) w_11).bind fun v_15 =>
  if (decide (v_15 > c3)) = true then (some (.ret (false, ()), w_11)) else (rec h1 c3 a17 (IntKind.i64.wrap (a18 + 1)) w_11))))) else none) else none) else (some (.norm (), w))
noncomputable def spring_can_l1 (K : Nat) (n : Nat) : Addr → Int → Array Value → Int → World → Option ((Out (Unit) (Bool × Unit)) × World) := iter (fun _ _ _ _ _ => none) (spring_can_l1_b K) n
/-- coffer/spring.can -/
noncomputable def spring_can (K : Nat) (h0 : Array Value) (w : World) : Option ((Bool × Unit) × World) :=
  bnd (newB h0 29 w) fun p_1 w_2 =>
  bnd (spring_can_s0 K p_1 w_2) fun y_5 w_6 =>
  if y_5.1 = true then (some ((false, ()), w_6)) else ((ldI .i64 (p_1.add 0) w_6).bind fun v_7 =>
  (ldA 8 (p_1.add 4) w_6).bind fun v_8 =>
  bnd (spring_can_l1 K K p_1 v_7 v_8 0 w_6) fun y_16 w_17 =>
  (match y_16 with
  | .norm z_18n => ((ldI .i64 (p_1.add 1) w_17).bind fun v_19 =>
  if (decide (v_19 ≥ 1)) = true then ((ldI .i64 (p_1.add 1) w_17).bind fun v_20 =>
  (ldI .i64 (p_1.add 0) w_17).bind fun v_21 =>
  if (decide (v_20 ≤ v_21)) = true then ((ldI .i64 (p_1.add 2) w_17).bind fun v_22 =>
  if (decide (v_22 ≥ 1)) = true then ((ldI .i64 (p_1.add 2) w_17).bind fun v_23 =>
  (ldI .i64 (p_1.add 0) w_17).bind fun v_24 =>
  if (decide (v_23 ≤ (if 512 < v_24 then 512 else v_24))) = true then ((ldI .i64 (p_1.add 3) w_17).bind fun v_25 =>
  if (decide (v_25 ≥ 0)) = true then ((ldI .i64 (p_1.add 3) w_17).bind fun v_26 =>
  (ldI .i64 (p_1.add 0) w_17).bind fun v_27 =>
  if (decide (v_26 ≤ (IntKind.i64.wrap (8 * v_27)))) = true then ((ldI .i64 (p_1.add 14) w_17).bind fun v_28 =>
  if (decide (v_28 ≥ 0)) = true then ((ldI .i64 (p_1.add 14) w_17).bind fun v_29 =>
  (ldI .i64 (p_1.add 0) w_17).bind fun v_30 =>
  if (decide (v_29 < (IntKind.i64.wrap (8 * v_30)))) = true then ((ldI .i64 (p_1.add 13) w_17).bind fun v_31 =>
  if (decide (v_31 ≥ 0)) = true then ((ldI .i64 (p_1.add 13) w_17).bind fun v_32 =>
  if (decide (v_32 ≤ (IntKind.i64.wrap ((IntKind.i64.wrap (4 * v_7)) * v_7)))) = true then ((ldI .i64 (p_1.add 12) w_17).bind fun v_33 =>
  if (decide (v_33 ≥ 0)) = true then ((ldI .i64 (p_1.add 12) w_17).bind fun v_34 =>
  some (((decide (v_34 ≤ (IntKind.i64.wrap (v_7 * v_7)))), ()), w_17)) else (some ((false, ()), w_17))) else (some ((false, ()), w_17))) else (some ((false, ()), w_17))) else (some ((false, ()), w_17))) else (some ((false, ()), w_17))) else (some ((false, ()), w_17))) else (some ((false, ()), w_17))) else (some ((false, ()), w_17))) else (some ((false, ()), w_17))) else (some ((false, ()), w_17))) else (some ((false, ()), w_17)))
  | .ret z_18r => (some ((z_18r.1, ()), w_17))))
theorem spring_can_s0_ok (K : Nat) : StmtNOk prog [(1, .addr)] [(13, .bool)] [(6, 14)] (fun x w => spring_can_s0 K x.1 w) (cd (bodyOf f17) [1, 0, 0]) :=
    mk_stmtN (O := tabL []) (root := (bodyOf f17)) (π := [1, 0, 0]) (Li := [(1, .addr)]) (Lo := [(13, .bool)]) (S := (fun x w => spring_can_s0 K x.1 w)) (spring_can_Eok K) (spring_can_Rok K) rfl (Orc.nil _ _ _) (by kernel_rfl) (fun _ _ => by kernel_rfl)
noncomputable def spring_can_s0_se (K : Nat) : SE := stmtN [(1, .addr)] [(13, .bool)] [(6, 14)] (fun x w => spring_can_s0 K x.1 w)
theorem spring_can_s0_se_ok (K : Nat) (R : Rg) (h : subRB [(6, 14)] R = true) : (spring_can_s0_se K).Ok prog R (cd (bodyOf f17) [1, 0, 0]) := stmtN_ok (Li := [(1, .addr)]) (Lo := [(13, .bool)]) (S := (fun x w => spring_can_s0 K x.1 w)) (spring_can_s0_ok K) (subR_of h)
theorem spring_can_l1_ok (K : Nat) (n : Nat) : StmtOk prog [(1, .addr), (3, .int .i64), (17, .agg), (18, .int .i64)] [] [(2, .bool)] [(2, 3), (5, 6), (18, 46)] ((fun n x w => spring_can_l1 K n x.1 x.2.1 x.2.2.1 x.2.2.2.1 w) n) (.block 0 (.loop (cd (bodyOf f17) [1, 1, 1, 0, 1, 0, 0]))) :=
    mk_loop (O := tabL []) (root := (bodyOf f17)) (π := [1, 1, 1, 0, 1, 0, 0]) (id := 0) (Li := [(1, .addr), (3, .int .i64), (17, .agg), (18, .int .i64)]) (Lo := []) (Lr := [(2, .bool)]) (S := (fun n x w => spring_can_l1 K n x.1 x.2.1 x.2.2.1 x.2.2.2.1 w)) (body := cd (bodyOf f17) [1, 1, 1, 0, 1, 0, 0]) (spring_can_Eok K) (spring_can_Rok K) rfl (Orc.nil _ _ _) (by kernel_rfl) (fun _ _ => by kernel_rfl) (fun _ _ _ => by kernel_rfl) n
noncomputable def spring_can_l1_se (K : Nat) : SE := stmt [(1, .addr), (3, .int .i64), (17, .agg), (18, .int .i64)] [] [(2, .bool)] [(2, 3), (5, 6), (18, 46)] (fun x w => spring_can_l1 K K x.1 x.2.1 x.2.2.1 x.2.2.2.1 w)
theorem spring_can_l1_se_ok (K : Nat) (R : Rg) (h : subRB [(2, 3), (5, 6), (18, 46)] R = true) : (spring_can_l1_se K).Ok prog R (.block 0 (.loop (cd (bodyOf f17) [1, 1, 1, 0, 1, 0, 0]))) := stmt_ok (Li := [(1, .addr), (3, .int .i64), (17, .agg), (18, .int .i64)]) (Lo := []) (Lr := [(2, .bool)]) (S := (fun x w => spring_can_l1 K K x.1 x.2.1 x.2.2.1 x.2.2.2.1 w)) (spring_can_l1_ok K K) (subR_of h)
theorem spring_can_facts : FunFacts prog 17 f17 (bodyOf f17) [(0, .agg)] [(0, 122)] := ⟨func17, by kernel_rfl, by kernel_rfl, by kernel_rfl, by kernel_rfl, by kernel_rfl⟩
theorem spring_can_calls (K : Nat) (x : TT [(0, .agg)]) (w : World) (y : TR [.bool]) (w2 : World) (h : spring_can K x.1 w = some (y, w2)) : Calls prog 17 (encA [(0, .agg)] x).toArray w (fun e w3 => e = .returned (resV (encR [.bool] y)) ∧ w3 = w2) :=
    mk_fun (O := tabL [([1, 0, 0], spring_can_s0_se K), ([1, 1, 1, 0, 1], spring_can_l1_se K)]) (Lp := [(0, .agg)]) (Rt := [.bool]) (S := (fun x w => spring_can K x.1 w)) (spring_can_Eok K) (spring_can_Rok K) rfl spring_can_facts (Orc.cons (by kernel_rfl) (spring_can_s0_se_ok K [(0, 122)] (by kernel_rfl)) (Orc.cons (by kernel_rfl) (spring_can_l1_se_ok K [(0, 122)] (by kernel_rfl)) (Orc.nil _ _ _))) (fun _ _ => by kernel_rfl) x w y w2 h
noncomputable def spring_can_ce (K : Nat) : CE := funE [(0, .agg)] [.bool] (fun x w => spring_can K x.1 w)
theorem spring_can_ok (K : Nat) : (spring_can_ce K).Ok prog 17 := funE_ok (Rt := [.bool]) (S := (fun x w => spring_can K x.1 w)) spring_can_facts fun x w y w2 h => spring_can_calls K x w y w2 h

noncomputable def spring_square_E : List (Nat × CE) := []
theorem spring_square_Eok : Env.Ok prog (tab (spring_square_E)) := (Env.nil _)
noncomputable def spring_square_R : List (Nat × RE) := []
theorem spring_square_Rok : REnv.Ok prog (tab (spring_square_R)) := (REnv.nil _)
/-- coffer/spring.square -/
noncomputable def spring_square (w0 : Array Value) (w : World) : Option ((Int × Unit) × World) :=
  bnd (newB w0 26 w) fun p_1 w_2 =>
  (ldI .i64 (p_1.add 0) w_2).bind fun v_3 =>
  (ldI .i64 (p_1.add 0) w_2).bind fun v_4 =>
  (ldI .i64 (p_1.add 1) w_2).bind fun v_5 =>
  (ldI .i64 (p_1.add 1) w_2).bind fun v_6 =>
  some (((IntKind.i64.wrap ((IntKind.i64.wrap (v_3 * v_4)) + (IntKind.i64.wrap (v_5 * v_6)))), ()), w_2)
theorem spring_square_facts : FunFacts prog 18 f18 (bodyOf f18) [(0, .agg)] [(0, 14)] := ⟨func18, by kernel_rfl, by kernel_rfl, by kernel_rfl, by kernel_rfl, by kernel_rfl⟩
theorem spring_square_calls (x : TT [(0, .agg)]) (w : World) (y : TR [.int .i64]) (w2 : World) (h : spring_square x.1 w = some (y, w2)) : Calls prog 18 (encA [(0, .agg)] x).toArray w (fun e w3 => e = .returned (resV (encR [.int .i64] y)) ∧ w3 = w2) :=
    mk_fun (O := tabL []) (Lp := [(0, .agg)]) (Rt := [.int .i64]) (S := (fun x w => spring_square x.1 w)) (spring_square_Eok) (spring_square_Rok) rfl spring_square_facts (Orc.nil _ _ _) (fun _ _ => by kernel_rfl) x w y w2 h
noncomputable def spring_square_ce : CE := funE [(0, .agg)] [.int .i64] (fun x w => spring_square x.1 w)
theorem spring_square_ok : (spring_square_ce).Ok prog 18 := funE_ok (Rt := [.int .i64]) (S := (fun x w => spring_square x.1 w)) spring_square_facts fun x w y w2 h => spring_square_calls x w y w2 h

noncomputable def spring_Judge_E (K : Nat) : List (Nat × CE) := [(17, spring_can_ce K), (18, spring_square_ce)]
theorem spring_Judge_Eok (K : Nat) : Env.Ok prog (tab (spring_Judge_E K)) := (Env.cons (spring_can_ok K) (Env.cons (spring_square_ok) (Env.nil _)))
noncomputable def spring_Judge_R (K : Nat) : List (Nat × RE) := []
theorem spring_Judge_Rok (K : Nat) : REnv.Ok prog (tab (spring_Judge_R K)) := (REnv.nil _)
noncomputable def spring_Judge_s0 (K : Nat) (run4 : Int) (a17 : Bool) (w : World) : Option ((Int × Unit) × World) :=
  if a17 = true then (some ((6, ()), w)) else (some ((run4, ()), w))
noncomputable def spring_Judge_s1 (K : Nat) (h1 : Addr) (c3 : Int) (run4 : Int) (off5 : Int) (turned6 : Int) (w : World) : Option ((Bool × Unit) × World) :=
  (ldI .i64 (h1.add 1) w).bind fun v_12 =>
  if (decide (v_12 > run4)) = true then (some ((true, ()), w)) else ((ldI .i64 (h1.add 2) w).bind fun v_13 =>
  if (decide (v_13 > 20)) = true then (some ((true, ()), w)) else (if (decide ((IntKind.i64.wrap (off5 * off5)) > (IntKind.i64.wrap (288 * c3)))) = true then (some ((true, ()), w)) else (if (decide ((IntKind.i64.wrap (turned6 * turned6)) > (IntKind.i64.wrap (36 * (IntKind.i64.wrap ((IntKind.i64.wrap (8 * c3)) - 1)))))) = true then (some ((true, ()), w)) else ((ldI .i64 (h1.add 13) w).bind fun v_14 =>
  if (decide ((IntKind.i64.wrap ((IntKind.i64.wrap (16 * v_14)) - (IntKind.i64.wrap ((IntKind.i64.wrap (4 * c3)) * c3)))) > (IntKind.i64.wrap (200 * c3)))) = true then (some ((true, ()), w)) else ((ldI .i64 (h1.add 12) w).bind fun v_15 =>
  some (((decide (v_15 > (IntKind.i64.wrap (64 * c3)))), ()), w))))))
noncomputable def spring_Judge_l2_b (K : Nat) (rec : Int → Bool → Array Value → Int → World → Option ((Bool × Unit) × World)) (c3 : Int) (sick7 : Bool) (a79 : Array Value) (a80 : Int) (w : World) : Option ((Bool × Unit) × World) :=
  if (decide (a80 < 4)) = true then (if (0 : Int) ≤ a80 ∧ a80 < ((4 : Nat) : Int) then (bnd (newB z26 26 w) fun w_19 w_20 =>
  if ((a79.extract ((Int.toNat a80) * 2) (((Int.toNat a80) * 2) + 2))).size = 2 then ((stA w_19 (a79.extract ((Int.toNat a80) * 2) (((Int.toNat a80) * 2) + 2)) w_20).bind fun w_21 =>
  if sick7 = true then (rec c3 true a79 (IntKind.i64.wrap (a80 + 1)) w_21) else ((ldA 2 w_19 w_21).bind fun v_22 =>
  bnd (spring_square v_22 w_21) fun r_23 w_24 =>
  rec c3 (decide (r_23.1 > (IntKind.i64.wrap (32 * c3)))) a79 (IntKind.i64.wrap (a80 + 1)) w_24)) else none) else none) else (some ((sick7, ()), w))
noncomputable def spring_Judge_l2 (K : Nat) (n : Nat) : Int → Bool → Array Value → Int → World → Option ((Bool × Unit) × World) := iter (fun _ _ _ _ _ => none) (spring_Judge_l2_b K) n
/-- coffer/spring.Judge -/
noncomputable def spring_Judge (K : Nat) (h0 : Array Value) (w : World) : Option ((Int × Unit) × World) :=
  bnd (newB h0 29 w) fun p_1 w_2 =>
  (ldA 15 p_1 w_2).bind fun v_3 =>
  bnd (spring_can K v_3 w_2) fun r_4 w_5 =>
  if (!r_4.1) = true then (some ((2, ()), w_5)) else ((ldI .i64 (p_1.add 0) w_5).bind fun v_6 =>
  (ldI .i64 (p_1.add 0) w_5).bind fun v_7 =>
  bnd (spring_Judge_s0 K 4 (decide (v_7 > 65536)) w_5) fun y_8 w_9 =>
  (ldI .i64 (p_1.add 3) w_9).bind fun v_10 =>
  (ldI .i64 (p_1.add 14) w_9).bind fun v_11 =>
  bnd (spring_Judge_s1 K p_1 v_6 y_8.1 (IntKind.i64.wrap ((IntKind.i64.wrap (2 * v_10)) - (IntKind.i64.wrap (8 * v_6)))) (IntKind.i64.wrap ((IntKind.i64.wrap (2 * v_11)) - (IntKind.i64.wrap ((IntKind.i64.wrap (8 * v_6)) - 1)))) w_9) fun y_16 w_17 =>
  (ldA 8 (p_1.add 4) w_17).bind fun v_18 =>
  bnd (spring_Judge_l2 K K v_6 y_16.1 v_18 0 w_17) fun y_25 w_26 =>
  if y_25.1 = true then (some ((62, ()), w_26)) else (some ((0, ()), w_26)))
theorem spring_Judge_s0_ok (K : Nat) : StmtNOk prog [(4, .int .i64), (17, .bool)] [(4, .int .i64)] [(4, 5)] (fun x w => spring_Judge_s0 K x.1 x.2.1 w) (cd (bodyOf f8) [1, 1, 1, 1, 0, 1]) :=
    mk_stmtN (O := tabL []) (root := (bodyOf f8)) (π := [1, 1, 1, 1, 0, 1]) (Li := [(4, .int .i64), (17, .bool)]) (Lo := [(4, .int .i64)]) (S := (fun x w => spring_Judge_s0 K x.1 x.2.1 w)) (spring_Judge_Eok K) (spring_Judge_Rok K) rfl (Orc.nil _ _ _) (by kernel_rfl) (fun _ _ => by kernel_rfl)
noncomputable def spring_Judge_s0_se (K : Nat) : SE := stmtN [(4, .int .i64), (17, .bool)] [(4, .int .i64)] [(4, 5)] (fun x w => spring_Judge_s0 K x.1 x.2.1 w)
theorem spring_Judge_s0_se_ok (K : Nat) (R : Rg) (h : subRB [(4, 5)] R = true) : (spring_Judge_s0_se K).Ok prog R (cd (bodyOf f8) [1, 1, 1, 1, 0, 1]) := stmtN_ok (Li := [(4, .int .i64), (17, .bool)]) (Lo := [(4, .int .i64)]) (S := (fun x w => spring_Judge_s0 K x.1 x.2.1 w)) (spring_Judge_s0_ok K) (subR_of h)
theorem spring_Judge_s1_ok (K : Nat) : StmtNOk prog [(1, .addr), (3, .int .i64), (4, .int .i64), (5, .int .i64), (6, .int .i64)] [(7, .bool)] [(7, 8), (31, 78)] (fun x w => spring_Judge_s1 K x.1 x.2.1 x.2.2.1 x.2.2.2.1 x.2.2.2.2.1 w) (cd (bodyOf f8) [1, 1, 1, 1, 1, 1, 1, 0]) :=
    mk_stmtN (O := tabL []) (root := (bodyOf f8)) (π := [1, 1, 1, 1, 1, 1, 1, 0]) (Li := [(1, .addr), (3, .int .i64), (4, .int .i64), (5, .int .i64), (6, .int .i64)]) (Lo := [(7, .bool)]) (S := (fun x w => spring_Judge_s1 K x.1 x.2.1 x.2.2.1 x.2.2.2.1 x.2.2.2.2.1 w)) (spring_Judge_Eok K) (spring_Judge_Rok K) rfl (Orc.nil _ _ _) (by kernel_rfl) (fun _ _ => by kernel_rfl)
noncomputable def spring_Judge_s1_se (K : Nat) : SE := stmtN [(1, .addr), (3, .int .i64), (4, .int .i64), (5, .int .i64), (6, .int .i64)] [(7, .bool)] [(7, 8), (31, 78)] (fun x w => spring_Judge_s1 K x.1 x.2.1 x.2.2.1 x.2.2.2.1 x.2.2.2.2.1 w)
theorem spring_Judge_s1_se_ok (K : Nat) (R : Rg) (h : subRB [(7, 8), (31, 78)] R = true) : (spring_Judge_s1_se K).Ok prog R (cd (bodyOf f8) [1, 1, 1, 1, 1, 1, 1, 0]) := stmtN_ok (Li := [(1, .addr), (3, .int .i64), (4, .int .i64), (5, .int .i64), (6, .int .i64)]) (Lo := [(7, .bool)]) (S := (fun x w => spring_Judge_s1 K x.1 x.2.1 x.2.2.1 x.2.2.2.1 x.2.2.2.2.1 w)) (spring_Judge_s1_ok K) (subR_of h)
theorem spring_Judge_l2_ok (K : Nat) (n : Nat) : StmtNOk prog [(3, .int .i64), (7, .bool), (79, .agg), (80, .int .i64)] [(7, .bool)] [(7, 8), (9, 10), (80, 92)] ((fun n x w => spring_Judge_l2 K n x.1 x.2.1 x.2.2.1 x.2.2.2.1 w) n) (.block 0 (.loop (cd (bodyOf f8) [1, 1, 1, 1, 1, 1, 1, 1, 0, 1, 0, 0]))) :=
    mk_loopN (O := tabL []) (root := (bodyOf f8)) (π := [1, 1, 1, 1, 1, 1, 1, 1, 0, 1, 0, 0]) (id := 0) (Li := [(3, .int .i64), (7, .bool), (79, .agg), (80, .int .i64)]) (Lo := [(7, .bool)]) (S := (fun n x w => spring_Judge_l2 K n x.1 x.2.1 x.2.2.1 x.2.2.2.1 w)) (body := cd (bodyOf f8) [1, 1, 1, 1, 1, 1, 1, 1, 0, 1, 0, 0]) (spring_Judge_Eok K) (spring_Judge_Rok K) rfl (Orc.nil _ _ _) (by kernel_rfl) (fun _ _ => by kernel_rfl) (fun _ _ _ => by kernel_rfl) n
noncomputable def spring_Judge_l2_se (K : Nat) : SE := stmtN [(3, .int .i64), (7, .bool), (79, .agg), (80, .int .i64)] [(7, .bool)] [(7, 8), (9, 10), (80, 92)] (fun x w => spring_Judge_l2 K K x.1 x.2.1 x.2.2.1 x.2.2.2.1 w)
theorem spring_Judge_l2_se_ok (K : Nat) (R : Rg) (h : subRB [(7, 8), (9, 10), (80, 92)] R = true) : (spring_Judge_l2_se K).Ok prog R (.block 0 (.loop (cd (bodyOf f8) [1, 1, 1, 1, 1, 1, 1, 1, 0, 1, 0, 0]))) := stmtN_ok (Li := [(3, .int .i64), (7, .bool), (79, .agg), (80, .int .i64)]) (Lo := [(7, .bool)]) (S := (fun x w => spring_Judge_l2 K K x.1 x.2.1 x.2.2.1 x.2.2.2.1 w)) (spring_Judge_l2_ok K K) (subR_of h)
theorem spring_Judge_facts : FunFacts prog 8 f8 (bodyOf f8) [(0, .agg)] [(0, 93)] := ⟨func8, by kernel_rfl, by kernel_rfl, by kernel_rfl, by kernel_rfl, by kernel_rfl⟩
theorem spring_Judge_calls (K : Nat) (x : TT [(0, .agg)]) (w : World) (y : TR [.int .i64]) (w2 : World) (h : spring_Judge K x.1 w = some (y, w2)) : Calls prog 8 (encA [(0, .agg)] x).toArray w (fun e w3 => e = .returned (resV (encR [.int .i64] y)) ∧ w3 = w2) :=
    mk_fun (O := tabL [([1, 1, 1, 1, 0, 1], spring_Judge_s0_se K), ([1, 1, 1, 1, 1, 1, 1, 0], spring_Judge_s1_se K), ([1, 1, 1, 1, 1, 1, 1, 1, 0, 1], spring_Judge_l2_se K)]) (Lp := [(0, .agg)]) (Rt := [.int .i64]) (S := (fun x w => spring_Judge K x.1 w)) (spring_Judge_Eok K) (spring_Judge_Rok K) rfl spring_Judge_facts (Orc.cons (by kernel_rfl) (spring_Judge_s0_se_ok K [(0, 93)] (by kernel_rfl)) (Orc.cons (by kernel_rfl) (spring_Judge_s1_se_ok K [(0, 93)] (by kernel_rfl)) (Orc.cons (by kernel_rfl) (spring_Judge_l2_se_ok K [(0, 93)] (by kernel_rfl)) (Orc.nil _ _ _)))) (fun _ _ => by kernel_rfl) x w y w2 h
noncomputable def spring_Judge_ce (K : Nat) : CE := funE [(0, .agg)] [.int .i64] (fun x w => spring_Judge K x.1 w)
theorem spring_Judge_ok (K : Nat) : (spring_Judge_ce K).Ok prog 8 := funE_ok (Rt := [.int .i64]) (S := (fun x w => spring_Judge K x.1 w)) spring_Judge_facts fun x w y w2 h => spring_Judge_calls K x w y w2 h

noncomputable def ref06_out_R : List (Nat × RE) := []
theorem ref06_out_Rok : REnv.Ok prog (tab (ref06_out_R)) := (REnv.nil _)
/-- coffer/cofferref06.out -/
noncomputable def ref06_out (n0 : Int) (lo1 : Int) (hi2 : Int) : Option (Bool × Unit) :=
  if (decide (n0 < lo1)) = true then (some (true, ())) else (some ((decide (n0 > hi2)), ()))
theorem ref06_out_facts : FunFacts prog 19 f19 (bodyOf f19) [(0, .int .i64), (1, .int .i64), (2, .int .i64)] [(0, 15)] := ⟨func19, by kernel_rfl, by kernel_rfl, by kernel_rfl, by kernel_rfl, by kernel_rfl⟩
theorem ref06_out_calls (x : TT [(0, .int .i64), (1, .int .i64), (2, .int .i64)]) (w : World) (y : TR [.bool]) (h : ref06_out x.1 x.2.1 x.2.2.1 = some y) : Calls prog 19 (encA [(0, .int .i64), (1, .int .i64), (2, .int .i64)] x).toArray w (fun e w3 => e = .returned (resV (encR [.bool] y)) ∧ w3 = w) :=
    mk_funQ (O := tabL []) (Lp := [(0, .int .i64), (1, .int .i64), (2, .int .i64)]) (Rt := [.bool]) (S := (fun x w => ref06_out x.1 x.2.1 x.2.2.1)) (ref06_out_Rok) ref06_out_facts (OrcQ.nil _ _ _) (fun _ _ => by kernel_rfl) x w y h
noncomputable def ref06_out_re : RE := funR [(0, .int .i64), (1, .int .i64), (2, .int .i64)] [.bool] (fun x w => ref06_out x.1 x.2.1 x.2.2.1)
theorem ref06_out_ok : (ref06_out_re).Ok prog 19 := funR_ok (Rt := [.bool]) (S := (fun x w => ref06_out x.1 x.2.1 x.2.2.1)) ref06_out_facts fun x w y h => ref06_out_calls x w y h

noncomputable def ref06_Judge_E (K : Nat) : List (Nat × CE) := []
theorem ref06_Judge_Eok (K : Nat) : Env.Ok prog (tab (ref06_Judge_E K)) := (Env.nil _)
noncomputable def ref06_Judge_R (K : Nat) : List (Nat × RE) := [(19, ref06_out_re)]
theorem ref06_Judge_Rok (K : Nat) : REnv.Ok prog (tab (ref06_Judge_R K)) := (REnv.cons (ref06_out_ok) (REnv.nil _))
noncomputable def ref06_Judge_s0 (K : Nat) (h1 : Addr) (w : World) : Option ((Bool × Unit) × World) :=
  (ldI .i64 (h1.add 0) w).bind fun v_3 =>
  if (decide (v_3 < 64)) = true then (some ((true, ()), w)) else ((ldI .i64 (h1.add 0) w).bind fun v_4 =>
  some (((decide (v_4 > 1048576)), ()), w))
noncomputable def ref06_Judge_s1 (K : Nat) (h1 : Addr) (c3 : Int) (w : World) : Option ((Bool × Unit) × World) :=
  (ldI .i64 (h1.add 1) w).bind fun v_8 =>
  (ref06_out v_8 1 c3).bind fun r_9 =>
  if r_9.1 = true then (some ((true, ()), w)) else ((ldI .i64 (h1.add 2) w).bind fun v_10 =>
  (ref06_out v_10 1 (if 512 < c3 then 512 else c3)).bind fun r_11 =>
  if r_11.1 = true then (some ((true, ()), w)) else ((ldI .i64 (h1.add 3) w).bind fun v_12 =>
  (ref06_out v_12 0 (IntKind.i64.wrap (8 * c3))).bind fun r_13 =>
  if r_13.1 = true then (some ((true, ()), w)) else ((ldI .i64 (h1.add 14) w).bind fun v_14 =>
  (ref06_out v_14 0 (IntKind.i64.wrap ((IntKind.i64.wrap (8 * c3)) - 1))).bind fun r_15 =>
  if r_15.1 = true then (some ((true, ()), w)) else ((ldI .i64 (h1.add 13) w).bind fun v_16 =>
  (ref06_out v_16 0 (IntKind.i64.wrap ((IntKind.i64.wrap (4 * c3)) * c3))).bind fun r_17 =>
  if r_17.1 = true then (some ((true, ()), w)) else ((ldI .i64 (h1.add 12) w).bind fun v_18 =>
  (ref06_out v_18 0 (IntKind.i64.wrap (c3 * c3))).bind fun r_19 =>
  some ((r_19.1, ()), w))))))
noncomputable def ref06_Judge_l2_b (K : Nat) (rec : Addr → Int → Int → World → Option ((Out (Unit) (Int × Unit)) × World)) (h1 : Addr) (c3 : Int) (i4 : Int) (w : World) : Option ((Out (Unit) (Int × Unit)) × World) :=
  if (decide (i4 < 4)) = true then (if (0 : Int) ≤ i4 ∧ i4 < ((4 : Nat) : Int) then ((ldI .i64 (((h1.add 4).add ((Int.toNat i4) * 2)).add 0) w).bind fun v_22 =>
  (ref06_out v_22 (IntKind.i64.wrap (0 - c3)) c3).bind fun r_23 =>
  if r_23.1 = true then (some (.ret (2, ()), w)) else (if (0 : Int) ≤ i4 ∧ i4 < ((4 : Nat) : Int) then ((ldI .i64 (((h1.add 4).add ((Int.toNat i4) * 2)).add 1) w).bind fun v_24 =>
  (ref06_out v_24 (IntKind.i64.wrap (0 - c3)) c3).bind fun r_25 =>
  if r_25.1 = true then (some (.ret (2, ()), w)) else (rec h1 c3 (IntKind.i64.wrap (i4 + 1)) w)) else none)) else none) else (some (.norm (), w))
noncomputable def ref06_Judge_l2 (K : Nat) (n : Nat) : Addr → Int → Int → World → Option ((Out (Unit) (Int × Unit)) × World) := iter (fun _ _ _ _ => none) (ref06_Judge_l2_b K) n
noncomputable def ref06_Judge_s3 (K : Nat) (h1 : Addr) (c3 : Int) (w : World) : Option ((Bool × Unit) × World) :=
  (ldI .i64 (h1.add 1) w).bind fun v_29 =>
  if (decide (v_29 > 6)) = true then (some ((true, ()), w)) else ((ldI .i64 (h1.add 1) w).bind fun v_30 =>
  if (decide (v_30 > 4)) = true then (if (decide (c3 ≤ 65536)) = true then (some ((true, ()), w)) else ((ldI .i64 (h1.add 2) w).bind fun v_31 =>
  some (((decide (v_31 > 20)), ()), w))) else ((ldI .i64 (h1.add 2) w).bind fun v_32 =>
  some (((decide (v_32 > 20)), ()), w)))
noncomputable def ref06_Judge_s4 (K : Nat) (h1 : Addr) (c3 : Int) (ones5 : Int) (m6 : Int) (turned7 : Int) (w : World) : Option ((Bool × Unit) × World) :=
  if (decide ((IntKind.i64.wrap (ones5 * ones5)) > (IntKind.i64.wrap (288 * c3)))) = true then (some ((true, ()), w)) else (if (decide ((IntKind.i64.wrap (turned7 * turned7)) > (IntKind.i64.wrap (36 * m6)))) = true then (some ((true, ()), w)) else ((ldI .i64 (h1.add 13) w).bind fun v_37 =>
  if (decide ((IntKind.i64.wrap ((IntKind.i64.wrap (16 * v_37)) - (IntKind.i64.wrap ((IntKind.i64.wrap (4 * c3)) * c3)))) > (IntKind.i64.wrap (200 * c3)))) = true then (some ((true, ()), w)) else ((ldI .i64 (h1.add 12) w).bind fun v_38 =>
  some (((decide (v_38 > (IntKind.i64.wrap (64 * c3)))), ()), w))))
noncomputable def ref06_Judge_l5_b (K : Nat) (rec : Addr → Int → Int → World → Option ((Out (Unit) (Int × Unit)) × World)) (h1 : Addr) (c3 : Int) (i8 : Int) (w : World) : Option ((Out (Unit) (Int × Unit)) × World) :=
  if (decide (i8 < 4)) = true then (if (0 : Int) ≤ i8 ∧ i8 < ((4 : Nat) : Int) then ((ldA 2 ((h1.add 4).add ((Int.toNat i8) * 2)) w).bind fun v_41 =>
  bnd (newB z30 30 w) fun w_42 w_43 =>
  if (v_41).size = 2 then ((stA w_42 v_41 w_43).bind fun w_44 =>
  (ldI .i64 (w_42.add 0) w_44).bind fun v_45 =>
  (ldI .i64 (w_42.add 0) w_44).bind fun v_46 =>
  (ldI .i64 (w_42.add 1) w_44).bind fun v_47 =>
  (ldI .i64 (w_42.add 1) w_44).bind fun v_48 =>
  if (decide ((IntKind.i64.wrap ((IntKind.i64.wrap (v_45 * v_46)) + (IntKind.i64.wrap (v_47 * v_48)))) > (IntKind.i64.wrap (32 * c3)))) = true then (some (.ret (62, ()), w_44)) else (rec h1 c3 (IntKind.i64.wrap (i8 + 1)) w_44)) else none) else none) else (some (.norm (), w))
noncomputable def ref06_Judge_l5 (K : Nat) (n : Nat) : Addr → Int → Int → World → Option ((Out (Unit) (Int × Unit)) × World) := iter (fun _ _ _ _ => none) (ref06_Judge_l5_b K) n
/-- coffer/cofferref06.Judge -/
noncomputable def ref06_Judge (K : Nat) (h0 : Array Value) (w : World) : Option ((Int × Unit) × World) :=
  bnd (newB h0 33 w) fun p_1 w_2 =>
  bnd (ref06_Judge_s0 K p_1 w_2) fun y_5 w_6 =>
  if y_5.1 = true then (some ((2, ()), w_6)) else ((ldI .i64 (p_1.add 0) w_6).bind fun v_7 =>
  bnd (ref06_Judge_s1 K p_1 v_7 w_6) fun y_20 w_21 =>
  if y_20.1 = true then (some ((2, ()), w_21)) else (bnd (ref06_Judge_l2 K K p_1 v_7 0 w_21) fun y_26 w_27 =>
  (match y_26 with
  | .norm z_28n => (bnd (ref06_Judge_s3 K p_1 v_7 w_27) fun y_33 w_34 =>
  if y_33.1 = true then (some ((62, ()), w_34)) else ((ldI .i64 (p_1.add 3) w_34).bind fun v_35 =>
  (ldI .i64 (p_1.add 14) w_34).bind fun v_36 =>
  bnd (ref06_Judge_s4 K p_1 v_7 (IntKind.i64.wrap ((IntKind.i64.wrap (2 * v_35)) - (IntKind.i64.wrap (8 * v_7)))) (IntKind.i64.wrap ((IntKind.i64.wrap (8 * v_7)) - 1)) (IntKind.i64.wrap ((IntKind.i64.wrap (2 * v_36)) - (IntKind.i64.wrap ((IntKind.i64.wrap (8 * v_7)) - 1)))) w_34) fun y_39 w_40 =>
  if y_39.1 = true then (some ((62, ()), w_40)) else (bnd (ref06_Judge_l5 K K p_1 v_7 0 w_40) fun y_49 w_50 =>
  (match y_49 with
  | .norm z_51n => (some ((0, ()), w_50))
  | .ret z_51r => (some ((z_51r.1, ()), w_50))))))
  | .ret z_28r => (some ((z_28r.1, ()), w_27)))))
theorem ref06_Judge_s0_ok (K : Nat) : StmtNOk prog [(1, .addr)] [(17, .bool)] [(10, 18)] (fun x w => ref06_Judge_s0 K x.1 w) (cd (bodyOf f9) [1, 0, 0]) :=
    mk_stmtN (O := tabL []) (root := (bodyOf f9)) (π := [1, 0, 0]) (Li := [(1, .addr)]) (Lo := [(17, .bool)]) (S := (fun x w => ref06_Judge_s0 K x.1 w)) (ref06_Judge_Eok K) (ref06_Judge_Rok K) rfl (Orc.nil _ _ _) (by kernel_rfl) (fun _ _ => by kernel_rfl)
noncomputable def ref06_Judge_s0_se (K : Nat) : SE := stmtN [(1, .addr)] [(17, .bool)] [(10, 18)] (fun x w => ref06_Judge_s0 K x.1 w)
theorem ref06_Judge_s0_se_ok (K : Nat) (R : Rg) (h : subRB [(10, 18)] R = true) : (ref06_Judge_s0_se K).Ok prog R (cd (bodyOf f9) [1, 0, 0]) := stmtN_ok (Li := [(1, .addr)]) (Lo := [(17, .bool)]) (S := (fun x w => ref06_Judge_s0 K x.1 w)) (ref06_Judge_s0_ok K) (subR_of h)
theorem ref06_Judge_s1_ok (K : Nat) : StmtNOk prog [(1, .addr), (3, .int .i64)] [(62, .bool)] [(20, 63)] (fun x w => ref06_Judge_s1 K x.1 x.2.1 w) (cd (bodyOf f9) [1, 1, 1, 0, 0]) :=
    mk_stmtN (O := tabL []) (root := (bodyOf f9)) (π := [1, 1, 1, 0, 0]) (Li := [(1, .addr), (3, .int .i64)]) (Lo := [(62, .bool)]) (S := (fun x w => ref06_Judge_s1 K x.1 x.2.1 w)) (ref06_Judge_Eok K) (ref06_Judge_Rok K) rfl (Orc.nil _ _ _) (by kernel_rfl) (fun _ _ => by kernel_rfl)
noncomputable def ref06_Judge_s1_se (K : Nat) : SE := stmtN [(1, .addr), (3, .int .i64)] [(62, .bool)] [(20, 63)] (fun x w => ref06_Judge_s1 K x.1 x.2.1 w)
theorem ref06_Judge_s1_se_ok (K : Nat) (R : Rg) (h : subRB [(20, 63)] R = true) : (ref06_Judge_s1_se K).Ok prog R (cd (bodyOf f9) [1, 1, 1, 0, 0]) := stmtN_ok (Li := [(1, .addr), (3, .int .i64)]) (Lo := [(62, .bool)]) (S := (fun x w => ref06_Judge_s1 K x.1 x.2.1 w)) (ref06_Judge_s1_ok K) (subR_of h)
theorem ref06_Judge_l2_ok (K : Nat) (n : Nat) : StmtOk prog [(1, .addr), (3, .int .i64), (4, .int .i64)] [] [(2, .int .i64)] [(2, 3), (4, 5), (63, 87)] ((fun n x w => ref06_Judge_l2 K n x.1 x.2.1 x.2.2.1 w) n) (.block 0 (.loop (cd (bodyOf f9) [1, 1, 1, 1, 0, 1, 0, 0]))) :=
    mk_loop (O := tabL []) (root := (bodyOf f9)) (π := [1, 1, 1, 1, 0, 1, 0, 0]) (id := 0) (Li := [(1, .addr), (3, .int .i64), (4, .int .i64)]) (Lo := []) (Lr := [(2, .int .i64)]) (S := (fun n x w => ref06_Judge_l2 K n x.1 x.2.1 x.2.2.1 w)) (body := cd (bodyOf f9) [1, 1, 1, 1, 0, 1, 0, 0]) (ref06_Judge_Eok K) (ref06_Judge_Rok K) rfl (Orc.nil _ _ _) (by kernel_rfl) (fun _ _ => by kernel_rfl) (fun _ _ _ => by kernel_rfl) n
noncomputable def ref06_Judge_l2_se (K : Nat) : SE := stmt [(1, .addr), (3, .int .i64), (4, .int .i64)] [] [(2, .int .i64)] [(2, 3), (4, 5), (63, 87)] (fun x w => ref06_Judge_l2 K K x.1 x.2.1 x.2.2.1 w)
theorem ref06_Judge_l2_se_ok (K : Nat) (R : Rg) (h : subRB [(2, 3), (4, 5), (63, 87)] R = true) : (ref06_Judge_l2_se K).Ok prog R (.block 0 (.loop (cd (bodyOf f9) [1, 1, 1, 1, 0, 1, 0, 0]))) := stmt_ok (Li := [(1, .addr), (3, .int .i64), (4, .int .i64)]) (Lo := []) (Lr := [(2, .int .i64)]) (S := (fun x w => ref06_Judge_l2 K K x.1 x.2.1 x.2.2.1 w)) (ref06_Judge_l2_ok K K) (subR_of h)
theorem ref06_Judge_s3_ok (K : Nat) : StmtNOk prog [(1, .addr), (3, .int .i64)] [(103, .bool)] [(87, 104)] (fun x w => ref06_Judge_s3 K x.1 x.2.1 w) (cd (bodyOf f9) [1, 1, 1, 1, 1, 0, 0]) :=
    mk_stmtN (O := tabL []) (root := (bodyOf f9)) (π := [1, 1, 1, 1, 1, 0, 0]) (Li := [(1, .addr), (3, .int .i64)]) (Lo := [(103, .bool)]) (S := (fun x w => ref06_Judge_s3 K x.1 x.2.1 w)) (ref06_Judge_Eok K) (ref06_Judge_Rok K) rfl (Orc.nil _ _ _) (by kernel_rfl) (fun _ _ => by kernel_rfl)
noncomputable def ref06_Judge_s3_se (K : Nat) : SE := stmtN [(1, .addr), (3, .int .i64)] [(103, .bool)] [(87, 104)] (fun x w => ref06_Judge_s3 K x.1 x.2.1 w)
theorem ref06_Judge_s3_se_ok (K : Nat) (R : Rg) (h : subRB [(87, 104)] R = true) : (ref06_Judge_s3_se K).Ok prog R (cd (bodyOf f9) [1, 1, 1, 1, 1, 0, 0]) := stmtN_ok (Li := [(1, .addr), (3, .int .i64)]) (Lo := [(103, .bool)]) (S := (fun x w => ref06_Judge_s3 K x.1 x.2.1 w)) (ref06_Judge_s3_ok K) (subR_of h)
theorem ref06_Judge_s4_ok (K : Nat) : StmtNOk prog [(1, .addr), (3, .int .i64), (5, .int .i64), (6, .int .i64), (7, .int .i64)] [(151, .bool)] [(118, 152)] (fun x w => ref06_Judge_s4 K x.1 x.2.1 x.2.2.1 x.2.2.2.1 x.2.2.2.2.1 w) (cd (bodyOf f9) [1, 1, 1, 1, 1, 1, 1, 1, 1, 0, 0]) :=
    mk_stmtN (O := tabL []) (root := (bodyOf f9)) (π := [1, 1, 1, 1, 1, 1, 1, 1, 1, 0, 0]) (Li := [(1, .addr), (3, .int .i64), (5, .int .i64), (6, .int .i64), (7, .int .i64)]) (Lo := [(151, .bool)]) (S := (fun x w => ref06_Judge_s4 K x.1 x.2.1 x.2.2.1 x.2.2.2.1 x.2.2.2.2.1 w)) (ref06_Judge_Eok K) (ref06_Judge_Rok K) rfl (Orc.nil _ _ _) (by kernel_rfl) (fun _ _ => by kernel_rfl)
noncomputable def ref06_Judge_s4_se (K : Nat) : SE := stmtN [(1, .addr), (3, .int .i64), (5, .int .i64), (6, .int .i64), (7, .int .i64)] [(151, .bool)] [(118, 152)] (fun x w => ref06_Judge_s4 K x.1 x.2.1 x.2.2.1 x.2.2.2.1 x.2.2.2.2.1 w)
theorem ref06_Judge_s4_se_ok (K : Nat) (R : Rg) (h : subRB [(118, 152)] R = true) : (ref06_Judge_s4_se K).Ok prog R (cd (bodyOf f9) [1, 1, 1, 1, 1, 1, 1, 1, 1, 0, 0]) := stmtN_ok (Li := [(1, .addr), (3, .int .i64), (5, .int .i64), (6, .int .i64), (7, .int .i64)]) (Lo := [(151, .bool)]) (S := (fun x w => ref06_Judge_s4 K x.1 x.2.1 x.2.2.1 x.2.2.2.1 x.2.2.2.2.1 w)) (ref06_Judge_s4_ok K) (subR_of h)
theorem ref06_Judge_l5_ok (K : Nat) (n : Nat) : StmtOk prog [(1, .addr), (3, .int .i64), (8, .int .i64)] [] [(2, .int .i64)] [(2, 3), (8, 10), (152, 174)] ((fun n x w => ref06_Judge_l5 K n x.1 x.2.1 x.2.2.1 w) n) (.block 2 (.loop (cd (bodyOf f9) [1, 1, 1, 1, 1, 1, 1, 1, 1, 1, 0, 1, 0, 0]))) :=
    mk_loop (O := tabL []) (root := (bodyOf f9)) (π := [1, 1, 1, 1, 1, 1, 1, 1, 1, 1, 0, 1, 0, 0]) (id := 2) (Li := [(1, .addr), (3, .int .i64), (8, .int .i64)]) (Lo := []) (Lr := [(2, .int .i64)]) (S := (fun n x w => ref06_Judge_l5 K n x.1 x.2.1 x.2.2.1 w)) (body := cd (bodyOf f9) [1, 1, 1, 1, 1, 1, 1, 1, 1, 1, 0, 1, 0, 0]) (ref06_Judge_Eok K) (ref06_Judge_Rok K) rfl (Orc.nil _ _ _) (by kernel_rfl) (fun _ _ => by kernel_rfl) (fun _ _ _ => by kernel_rfl) n
noncomputable def ref06_Judge_l5_se (K : Nat) : SE := stmt [(1, .addr), (3, .int .i64), (8, .int .i64)] [] [(2, .int .i64)] [(2, 3), (8, 10), (152, 174)] (fun x w => ref06_Judge_l5 K K x.1 x.2.1 x.2.2.1 w)
theorem ref06_Judge_l5_se_ok (K : Nat) (R : Rg) (h : subRB [(2, 3), (8, 10), (152, 174)] R = true) : (ref06_Judge_l5_se K).Ok prog R (.block 2 (.loop (cd (bodyOf f9) [1, 1, 1, 1, 1, 1, 1, 1, 1, 1, 0, 1, 0, 0]))) := stmt_ok (Li := [(1, .addr), (3, .int .i64), (8, .int .i64)]) (Lo := []) (Lr := [(2, .int .i64)]) (S := (fun x w => ref06_Judge_l5 K K x.1 x.2.1 x.2.2.1 w)) (ref06_Judge_l5_ok K K) (subR_of h)
theorem ref06_Judge_facts : FunFacts prog 9 f9 (bodyOf f9) [(0, .agg)] [(0, 174)] := ⟨func9, by kernel_rfl, by kernel_rfl, by kernel_rfl, by kernel_rfl, by kernel_rfl⟩
theorem ref06_Judge_calls (K : Nat) (x : TT [(0, .agg)]) (w : World) (y : TR [.int .i64]) (w2 : World) (h : ref06_Judge K x.1 w = some (y, w2)) : Calls prog 9 (encA [(0, .agg)] x).toArray w (fun e w3 => e = .returned (resV (encR [.int .i64] y)) ∧ w3 = w2) :=
    mk_fun (O := tabL [([1, 0, 0], ref06_Judge_s0_se K), ([1, 1, 1, 0, 0], ref06_Judge_s1_se K), ([1, 1, 1, 1, 0, 1], ref06_Judge_l2_se K), ([1, 1, 1, 1, 1, 0, 0], ref06_Judge_s3_se K), ([1, 1, 1, 1, 1, 1, 1, 1, 1, 0, 0], ref06_Judge_s4_se K), ([1, 1, 1, 1, 1, 1, 1, 1, 1, 1, 0, 1], ref06_Judge_l5_se K)]) (Lp := [(0, .agg)]) (Rt := [.int .i64]) (S := (fun x w => ref06_Judge K x.1 w)) (ref06_Judge_Eok K) (ref06_Judge_Rok K) rfl ref06_Judge_facts (Orc.cons (by kernel_rfl) (ref06_Judge_s0_se_ok K [(0, 174)] (by kernel_rfl)) (Orc.cons (by kernel_rfl) (ref06_Judge_s1_se_ok K [(0, 174)] (by kernel_rfl)) (Orc.cons (by kernel_rfl) (ref06_Judge_l2_se_ok K [(0, 174)] (by kernel_rfl)) (Orc.cons (by kernel_rfl) (ref06_Judge_s3_se_ok K [(0, 174)] (by kernel_rfl)) (Orc.cons (by kernel_rfl) (ref06_Judge_s4_se_ok K [(0, 174)] (by kernel_rfl)) (Orc.cons (by kernel_rfl) (ref06_Judge_l5_se_ok K [(0, 174)] (by kernel_rfl)) (Orc.nil _ _ _))))))) (fun _ _ => by kernel_rfl) x w y w2 h
noncomputable def ref06_Judge_ce (K : Nat) : CE := funE [(0, .agg)] [.int .i64] (fun x w => ref06_Judge K x.1 w)
theorem ref06_Judge_ok (K : Nat) : (ref06_Judge_ce K).Ok prog 9 := funE_ok (Rt := [.int .i64]) (S := (fun x w => ref06_Judge K x.1 w)) ref06_Judge_facts fun x w y w2 h => ref06_Judge_calls K x w y w2 h

noncomputable def law06_told_E (K : Nat) : List (Nat × CE) := []
theorem law06_told_Eok (K : Nat) : Env.Ok prog (tab (law06_told_E K)) := (Env.nil _)
noncomputable def law06_told_R (K : Nat) : List (Nat × RE) := []
theorem law06_told_Rok (K : Nat) : REnv.Ok prog (tab (law06_told_R K)) := (REnv.nil _)
noncomputable def law06_told_l0_b (K : Nat) (rec : Addr → Addr → Addr → Int → World → Option ((Unit) × World)) (h1 : Addr) (a2 : Addr) (a3 : Addr) (i4 : Int) (w : World) : Option ((Unit) × World) :=
  if (decide (i4 < 4)) = true then (if (0 : Int) ≤ i4 ∧ i4 < ((4 : Nat) : Int) then (if (0 : Int) ≤ i4 ∧ i4 < ((4 : Nat) : Int) then ((ldI .i64 (((h1.add 4).add ((Int.toNat i4) * 2)).add 0) w.drew).bind fun v_16 =>
  (ldI .i64 (((h1.add 4).add ((Int.toNat i4) * 2)).add 1) w.drew).bind fun v_17 =>
  (prog.built 26 [(0, (.int .i64 v_16)), (1, (.int .i64 v_17))]).bind fun cs_18 =>
  if (0 : Int) ≤ i4 ∧ i4 < ((4 : Nat) : Int) then (if (cs_18).size = 2 then ((stA ((a3.add 4).add ((Int.toNat i4) * 2)) cs_18 w.drew).bind fun w_19 =>
  rec h1 a2 a3 (IntKind.i64.wrap (i4 + 1)) w_19) else none) else none) else none) else none) else (some ((), w))
noncomputable def law06_told_l0 (K : Nat) (n : Nat) : Addr → Addr → Addr → Int → World → Option ((Unit) × World) := iter (fun _ _ _ _ _ => none) (law06_told_l0_b K) n
/-- coffer/cofferlaw06.told -/
noncomputable def law06_told (K : Nat) (h0 : Array Value) (w : World) : Option (((Array Value) × Unit) × World) :=
  bnd (newB h0 33 w) fun p_1 w_2 =>
  bnd (newB z29 29 w_2) fun p_3 w_4 =>
  (ldI .i64 (p_1.add 0) w_4).bind fun v_5 =>
  (ldI .i64 (p_1.add 1) w_4).bind fun v_6 =>
  (ldI .i64 (p_1.add 2) w_4).bind fun v_7 =>
  (ldI .i64 (p_1.add 3) w_4).bind fun v_8 =>
  (ldI .i64 (p_1.add 12) w_4).bind fun v_9 =>
  (ldI .i64 (p_1.add 13) w_4).bind fun v_10 =>
  (ldI .i64 (p_1.add 14) w_4).bind fun v_11 =>
  (prog.built 29 [(0, (.int .i64 v_5)), (1, (.int .i64 v_6)), (2, (.int .i64 v_7)), (3, (.int .i64 v_8)), (5, (.int .i64 v_9)), (6, (.int .i64 v_10)), (7, (.int .i64 v_11))]).bind fun cs_12 =>
  bnd (newB z29 29 w_4) fun a_13 w_14 =>
  if (cs_12).size = 15 then ((stA a_13 cs_12 w_14).bind fun w_15 =>
  bnd (law06_told_l0 K K p_1 p_3 a_13 0 w_15) fun y_20 w_21 =>
  (ldA 15 a_13 w_21).bind fun v_22 =>
  if (v_22).size = 15 then ((stA p_3 v_22 w_21).bind fun w_23 =>
  (ldA 15 p_3 w_23).bind fun res_24 =>
  some ((res_24, ()), w_23)) else none) else none
theorem law06_told_l0_ok (K : Nat) (n : Nat) : StmtNOk prog [(1, .addr), (2, .addr), (3, .addr), (4, .int .i64)] [] [(4, 5), (20, 38)] ((fun n x w => law06_told_l0 K n x.1 x.2.1 x.2.2.1 x.2.2.2.1 w) n) (.block 0 (.loop (cd (bodyOf f11) [1, 1, 0, 1, 0, 0]))) :=
    mk_loopN (O := tabL []) (root := (bodyOf f11)) (π := [1, 1, 0, 1, 0, 0]) (id := 0) (Li := [(1, .addr), (2, .addr), (3, .addr), (4, .int .i64)]) (Lo := []) (S := (fun n x w => law06_told_l0 K n x.1 x.2.1 x.2.2.1 x.2.2.2.1 w)) (body := cd (bodyOf f11) [1, 1, 0, 1, 0, 0]) (law06_told_Eok K) (law06_told_Rok K) rfl (Orc.nil _ _ _) (by kernel_rfl) (fun _ _ => by kernel_rfl) (fun _ _ _ => by kernel_rfl) n
noncomputable def law06_told_l0_se (K : Nat) : SE := stmtN [(1, .addr), (2, .addr), (3, .addr), (4, .int .i64)] [] [(4, 5), (20, 38)] (fun x w => law06_told_l0 K K x.1 x.2.1 x.2.2.1 x.2.2.2.1 w)
theorem law06_told_l0_se_ok (K : Nat) (R : Rg) (h : subRB [(4, 5), (20, 38)] R = true) : (law06_told_l0_se K).Ok prog R (.block 0 (.loop (cd (bodyOf f11) [1, 1, 0, 1, 0, 0]))) := stmtN_ok (Li := [(1, .addr), (2, .addr), (3, .addr), (4, .int .i64)]) (Lo := []) (S := (fun x w => law06_told_l0 K K x.1 x.2.1 x.2.2.1 x.2.2.2.1 w)) (law06_told_l0_ok K K) (subR_of h)
theorem law06_told_facts : FunFacts prog 11 f11 (bodyOf f11) [(0, .agg)] [(0, 39)] := ⟨func11, by kernel_rfl, by kernel_rfl, by kernel_rfl, by kernel_rfl, by kernel_rfl⟩
theorem law06_told_calls (K : Nat) (x : TT [(0, .agg)]) (w : World) (y : TR [.agg]) (w2 : World) (h : law06_told K x.1 w = some (y, w2)) : Calls prog 11 (encA [(0, .agg)] x).toArray w (fun e w3 => e = .returned (resV (encR [.agg] y)) ∧ w3 = w2) :=
    mk_fun (O := tabL [([1, 1, 0, 1], law06_told_l0_se K)]) (Lp := [(0, .agg)]) (Rt := [.agg]) (S := (fun x w => law06_told K x.1 w)) (law06_told_Eok K) (law06_told_Rok K) rfl law06_told_facts (Orc.cons (by kernel_rfl) (law06_told_l0_se_ok K [(0, 39)] (by kernel_rfl)) (Orc.nil _ _ _)) (fun _ _ => by kernel_rfl) x w y w2 h
noncomputable def law06_told_ce (K : Nat) : CE := funE [(0, .agg)] [.agg] (fun x w => law06_told K x.1 w)
theorem law06_told_ok (K : Nat) : (law06_told_ce K).Ok prog 11 := funE_ok (Rt := [.agg]) (S := (fun x w => law06_told K x.1 w)) law06_told_facts fun x w y w2 h => law06_told_calls K x w y w2 h

noncomputable def law06_like_E (K : Nat) : List (Nat × CE) := []
theorem law06_like_Eok (K : Nat) : Env.Ok prog (tab (law06_like_E K)) := (Env.nil _)
noncomputable def law06_like_R (K : Nat) : List (Nat × RE) := []
theorem law06_like_Rok (K : Nat) : REnv.Ok prog (tab (law06_like_R K)) := (REnv.nil _)
noncomputable def law06_like_l0_b (K : Nat) (rec : Addr → Addr → Int → World → Option ((Out (Unit) (Bool × Unit)) × World)) (a2 : Addr) (b3 : Addr) (i5 : Int) (w : World) : Option ((Out (Unit) (Bool × Unit)) × World) :=
  if (decide (i5 < 4)) = true then (if (0 : Int) ≤ i5 ∧ i5 < ((4 : Nat) : Int) then (if (0 : Int) ≤ i5 ∧ i5 < ((4 : Nat) : Int) then ((ldI .i64 (((a2.add 4).add ((Int.toNat i5) * 2)).add 0) w.drew).bind fun v_5 =>
  (ldI .i64 (((b3.add 4).add ((Int.toNat i5) * 2)).add 0) w.drew).bind fun v_6 =>
  if (v_5 != v_6) = true then (some (.ret (false, ()), w.drew)) else (if (0 : Int) ≤ i5 ∧ i5 < ((4 : Nat) : Int) then (if (0 : Int) ≤ i5 ∧ i5 < ((4 : Nat) : Int) then ((ldI .i64 (((a2.add 4).add ((Int.toNat i5) * 2)).add 1) w.drew).bind fun v_7 =>
  (ldI .i64 (((b3.add 4).add ((Int.toNat i5) * 2)).add 1) w.drew).bind fun v_8 =>
  if (v_7 != v_8) = true then (some (.ret (false, ()), w.drew)) else (rec a2 b3 (IntKind.i64.wrap (i5 + 1)) w.drew)) else none) else none)) else none) else none) else (some (.norm (), w))
noncomputable def law06_like_l0 (K : Nat) (n : Nat) : Addr → Addr → Int → World → Option ((Out (Unit) (Bool × Unit)) × World) := iter (fun _ _ _ _ => none) (law06_like_l0_b K) n
/-- coffer/cofferlaw06.like -/
noncomputable def law06_like (K : Nat) (a0 : Array Value) (b1 : Array Value) (w : World) : Option ((Bool × Unit) × World) :=
  bnd (newB a0 29 w) fun p_1 w_2 =>
  bnd (newB b1 33 w_2) fun p_3 w_4 =>
  bnd (law06_like_l0 K K p_1 p_3 0 w_4) fun y_9 w_10 =>
  (match y_9 with
  | .norm z_11n => ((ldI .i64 (p_1.add 0) w_10).bind fun v_12 =>
  (ldI .i64 (p_3.add 0) w_10).bind fun v_13 =>
  if (v_12 == v_13) = true then ((ldI .i64 (p_1.add 1) w_10).bind fun v_14 =>
  (ldI .i64 (p_3.add 1) w_10).bind fun v_15 =>
  if (v_14 == v_15) = true then ((ldI .i64 (p_1.add 2) w_10).bind fun v_16 =>
  (ldI .i64 (p_3.add 2) w_10).bind fun v_17 =>
  if (v_16 == v_17) = true then ((ldI .i64 (p_1.add 3) w_10).bind fun v_18 =>
  (ldI .i64 (p_3.add 3) w_10).bind fun v_19 =>
  if (v_18 == v_19) = true then ((ldI .i64 (p_1.add 12) w_10).bind fun v_20 =>
  (ldI .i64 (p_3.add 12) w_10).bind fun v_21 =>
  if (v_20 == v_21) = true then ((ldI .i64 (p_1.add 13) w_10).bind fun v_22 =>
  (ldI .i64 (p_3.add 13) w_10).bind fun v_23 =>
  if (v_22 == v_23) = true then ((ldI .i64 (p_1.add 14) w_10).bind fun v_24 =>
  (ldI .i64 (p_3.add 14) w_10).bind fun v_25 =>
  some (((v_24 == v_25), ()), w_10)) else (some ((false, ()), w_10))) else (some ((false, ()), w_10))) else (some ((false, ()), w_10))) else (some ((false, ()), w_10))) else (some ((false, ()), w_10))) else (some ((false, ()), w_10)))
  | .ret z_11r => (some ((z_11r.1, ()), w_10)))
theorem law06_like_l0_ok (K : Nat) (n : Nat) : StmtOk prog [(2, .addr), (3, .addr), (5, .int .i64)] [] [(4, .bool)] [(4, 34)] ((fun n x w => law06_like_l0 K n x.1 x.2.1 x.2.2.1 w) n) (.block 0 (.loop (cd (bodyOf f10) [1, 0, 1, 0, 0]))) :=
    mk_loop (O := tabL []) (root := (bodyOf f10)) (π := [1, 0, 1, 0, 0]) (id := 0) (Li := [(2, .addr), (3, .addr), (5, .int .i64)]) (Lo := []) (Lr := [(4, .bool)]) (S := (fun n x w => law06_like_l0 K n x.1 x.2.1 x.2.2.1 w)) (body := cd (bodyOf f10) [1, 0, 1, 0, 0]) (law06_like_Eok K) (law06_like_Rok K) rfl (Orc.nil _ _ _) (by kernel_rfl) (fun _ _ => by kernel_rfl) (fun _ _ _ => by kernel_rfl) n
noncomputable def law06_like_l0_se (K : Nat) : SE := stmt [(2, .addr), (3, .addr), (5, .int .i64)] [] [(4, .bool)] [(4, 34)] (fun x w => law06_like_l0 K K x.1 x.2.1 x.2.2.1 w)
theorem law06_like_l0_se_ok (K : Nat) (R : Rg) (h : subRB [(4, 34)] R = true) : (law06_like_l0_se K).Ok prog R (.block 0 (.loop (cd (bodyOf f10) [1, 0, 1, 0, 0]))) := stmt_ok (Li := [(2, .addr), (3, .addr), (5, .int .i64)]) (Lo := []) (Lr := [(4, .bool)]) (S := (fun x w => law06_like_l0 K K x.1 x.2.1 x.2.2.1 w)) (law06_like_l0_ok K K) (subR_of h)
theorem law06_like_facts : FunFacts prog 10 f10 (bodyOf f10) [(0, .agg), (1, .agg)] [(0, 81)] := ⟨func10, by kernel_rfl, by kernel_rfl, by kernel_rfl, by kernel_rfl, by kernel_rfl⟩
theorem law06_like_calls (K : Nat) (x : TT [(0, .agg), (1, .agg)]) (w : World) (y : TR [.bool]) (w2 : World) (h : law06_like K x.1 x.2.1 w = some (y, w2)) : Calls prog 10 (encA [(0, .agg), (1, .agg)] x).toArray w (fun e w3 => e = .returned (resV (encR [.bool] y)) ∧ w3 = w2) :=
    mk_fun (O := tabL [([1, 0, 1], law06_like_l0_se K)]) (Lp := [(0, .agg), (1, .agg)]) (Rt := [.bool]) (S := (fun x w => law06_like K x.1 x.2.1 w)) (law06_like_Eok K) (law06_like_Rok K) rfl law06_like_facts (Orc.cons (by kernel_rfl) (law06_like_l0_se_ok K [(0, 81)] (by kernel_rfl)) (Orc.nil _ _ _)) (fun _ _ => by kernel_rfl) x w y w2 h
noncomputable def law06_like_ce (K : Nat) : CE := funE [(0, .agg), (1, .agg)] [.bool] (fun x w => law06_like K x.1 x.2.1 w)
theorem law06_like_ok (K : Nat) : (law06_like_ce K).Ok prog 10 := funE_ok (Rt := [.bool]) (S := (fun x w => law06_like K x.1 x.2.1 w)) law06_like_facts fun x w y w2 h => law06_like_calls K x w y w2 h

noncomputable def law06_SpringJudges_E (K : Nat) : List (Nat × CE) := [(8, spring_Judge_ce K), (9, ref06_Judge_ce K), (11, law06_told_ce K), (10, law06_like_ce K)]
theorem law06_SpringJudges_Eok (K : Nat) : Env.Ok prog (tab (law06_SpringJudges_E K)) := (Env.cons (spring_Judge_ok K) (Env.cons (ref06_Judge_ok K) (Env.cons (law06_told_ok K) (Env.cons (law06_like_ok K) (Env.nil _)))))
noncomputable def law06_SpringJudges_R (K : Nat) : List (Nat × RE) := [(7, law06_num_re)]
theorem law06_SpringJudges_Rok (K : Nat) : REnv.Ok prog (tab (law06_SpringJudges_R K)) := (REnv.cons (law06_num_ok) (REnv.nil _))
noncomputable def law06_SpringJudges_l0_b (K : Nat) (rec : Addr → Addr → Int → World → Option ((Unit) × World)) (h1 : Addr) (w3 : Addr) (i4 : Int) (w : World) : Option ((Unit) × World) :=
  if (decide (i4 < 4)) = true then (if (0 : Int) ≤ i4 ∧ i4 < ((4 : Nat) : Int) then (if (0 : Int) ≤ i4 ∧ i4 < ((4 : Nat) : Int) then ((ldI .i64 (((h1.add 4).add ((Int.toNat i4) * 2)).add 0) w.drew).bind fun v_14 =>
  (ldI .i64 (((h1.add 4).add ((Int.toNat i4) * 2)).add 1) w.drew).bind fun v_15 =>
  (prog.built 30 [(0, (.int .i64 v_14)), (1, (.int .i64 v_15))]).bind fun cs_16 =>
  if (0 : Int) ≤ i4 ∧ i4 < ((4 : Nat) : Int) then (if (cs_16).size = 2 then ((stA ((w3.add 4).add ((Int.toNat i4) * 2)) cs_16 w.drew).bind fun w_17 =>
  rec h1 w3 (IntKind.i64.wrap (i4 + 1)) w_17) else none) else none) else none) else none) else (some ((), w))
noncomputable def law06_SpringJudges_l0 (K : Nat) (n : Nat) : Addr → Addr → Int → World → Option ((Unit) × World) := iter (fun _ _ _ _ => none) (law06_SpringJudges_l0_b K) n
noncomputable def law06_SpringJudges_s1 (K : Nat) (h1 : Addr) (a2 : Bool) (w3 : Addr) (w : World) : Option ((Bool × Unit) × World) :=
  (ldA 15 h1 w.drew).bind fun v_20 =>
  (ldA 15 w3 w.drew).bind fun v_21 =>
  bnd (spring_Judge K v_20 w.drew) fun r_22 w_23 =>
  (ldA 15 w3 w_23).bind fun v_24 =>
  sameK (.agg v_21) (.agg v_24) ((ldA 15 h1 w_23).bind fun v_25 =>
  sameK (.agg v_20) (.agg v_25) ((law06_num r_22.1).bind fun r_26 =>
  (ldA 15 w3 w_23).bind fun v_27 =>
  sameK (.agg v_21) (.agg v_27) ((ldA 15 h1 w_23).bind fun v_28 =>
  sameK (.agg v_20) (.agg v_28) (bnd (ref06_Judge K v_21 w_23) fun r_29 w_30 =>
  (ldA 15 w3 w_30).bind fun v_31 =>
  sameK (.agg v_21) (.agg v_31) ((ldA 15 h1 w_30).bind fun v_32 =>
  sameK (.agg v_20) (.agg v_32) (if (r_26.1 == r_29.1) = true then ((ldA 15 w3 w_30).bind fun v_33 =>
  (ldA 15 w3 w_30).bind fun v_34 =>
  bnd (law06_told K v_33 w_30) fun r_35 w_36 =>
  (ldA 15 w3 w_36).bind fun v_37 =>
  sameK (.agg v_34) (.agg v_37) ((ldA 15 w3 w_36).bind fun v_38 =>
  sameK (.agg v_33) (.agg v_38) ((ldA 15 w3 w_36).bind fun v_39 =>
  sameK (.agg v_21) (.agg v_39) ((ldA 15 h1 w_36).bind fun v_40 =>
  sameK (.agg v_20) (.agg v_40) (bnd (law06_like K r_35.1 v_34 w_36) fun r_41 w_42 =>
  (ldA 15 w3 w_42).bind fun v_43 =>
  sameK (.agg v_34) (.agg v_43) ((ldA 15 w3 w_42).bind fun v_44 =>
  sameK (.agg v_33) (.agg v_44) ((ldA 15 w3 w_42).bind fun v_45 =>
  sameK (.agg v_21) (.agg v_45) ((ldA 15 h1 w_42).bind fun v_46 =>
  sameK (.agg v_20) (.agg v_46) (some ((r_41.1, ()), w_42)))))))))) else ((ldA 15 w3 w_30).bind fun v_47 =>
  sameK (.agg v_21) (.agg v_47) ((ldA 15 h1 w_30).bind fun v_48 =>
  sameK (.agg v_20) (.agg v_48) ((ldA 15 w3 w_30).bind fun v_49 =>
  sameK (.agg v_21) (.agg v_49) ((ldA 15 h1 w_30).bind fun v_50 =>
  sameK (.agg v_20) (.agg v_50) (some ((false, ()), w_30))))))))))))
/-- coffer/cofferlaw06.SpringJudges -/
noncomputable def law06_SpringJudges (K : Nat) (h0 : Array Value) (w : World) : Option ((Bool × Unit) × World) :=
  bnd (newB h0 29 w) fun p_1 w_2 =>
  (ldI .i64 (p_1.add 0) w_2).bind fun v_3 =>
  (ldI .i64 (p_1.add 1) w_2).bind fun v_4 =>
  (ldI .i64 (p_1.add 2) w_2).bind fun v_5 =>
  (ldI .i64 (p_1.add 3) w_2).bind fun v_6 =>
  (ldI .i64 (p_1.add 12) w_2).bind fun v_7 =>
  (ldI .i64 (p_1.add 13) w_2).bind fun v_8 =>
  (ldI .i64 (p_1.add 14) w_2).bind fun v_9 =>
  (prog.built 33 [(0, (.int .i64 v_3)), (1, (.int .i64 v_4)), (2, (.int .i64 v_5)), (3, (.int .i64 v_6)), (5, (.int .i64 v_7)), (6, (.int .i64 v_8)), (7, (.int .i64 v_9))]).bind fun cs_10 =>
  bnd (newB z33 33 w_2) fun w_11 w_12 =>
  if (cs_10).size = 15 then ((stA w_11 cs_10 w_12).bind fun w_13 =>
  bnd (law06_SpringJudges_l0 K K p_1 w_11 0 w_13) fun y_18 w_19 =>
  bnd (law06_SpringJudges_s1 K p_1 false w_11 w_19) fun y_51 w_52 =>
  some ((y_51.1, ()), w_52)) else none
theorem law06_SpringJudges_l0_ok (K : Nat) (n : Nat) : StmtNOk prog [(1, .addr), (3, .addr), (4, .int .i64)] [] [(4, 5), (20, 38)] ((fun n x w => law06_SpringJudges_l0 K n x.1 x.2.1 x.2.2.1 w) n) (.block 0 (.loop (cd (bodyOf f4) [1, 1, 0, 1, 0, 0]))) :=
    mk_loopN (O := tabL []) (root := (bodyOf f4)) (π := [1, 1, 0, 1, 0, 0]) (id := 0) (Li := [(1, .addr), (3, .addr), (4, .int .i64)]) (Lo := []) (S := (fun n x w => law06_SpringJudges_l0 K n x.1 x.2.1 x.2.2.1 w)) (body := cd (bodyOf f4) [1, 1, 0, 1, 0, 0]) (law06_SpringJudges_Eok K) (law06_SpringJudges_Rok K) rfl (Orc.nil _ _ _) (by kernel_rfl) (fun _ _ => by kernel_rfl) (fun _ _ _ => by kernel_rfl) n
noncomputable def law06_SpringJudges_l0_se (K : Nat) : SE := stmtN [(1, .addr), (3, .addr), (4, .int .i64)] [] [(4, 5), (20, 38)] (fun x w => law06_SpringJudges_l0 K K x.1 x.2.1 x.2.2.1 w)
theorem law06_SpringJudges_l0_se_ok (K : Nat) (R : Rg) (h : subRB [(4, 5), (20, 38)] R = true) : (law06_SpringJudges_l0_se K).Ok prog R (.block 0 (.loop (cd (bodyOf f4) [1, 1, 0, 1, 0, 0]))) := stmtN_ok (Li := [(1, .addr), (3, .addr), (4, .int .i64)]) (Lo := []) (S := (fun x w => law06_SpringJudges_l0 K K x.1 x.2.1 x.2.2.1 w)) (law06_SpringJudges_l0_ok K K) (subR_of h)
theorem law06_SpringJudges_s1_ok (K : Nat) : StmtNOk prog [(1, .addr), (2, .bool), (3, .addr)] [(2, .bool)] [(2, 3), (38, 50)] (fun x w => law06_SpringJudges_s1 K x.1 x.2.1 x.2.2.1 w) (cd (bodyOf f4) [1, 1, 1, 0]) :=
    mk_regionH (R := [(2, 3), (38, 50)]) (Li := [(1, .addr), (2, .bool), (3, .addr)]) (Lo := [(2, .bool)]) (S := (fun x w => law06_SpringJudges_s1 K x.1 x.2.1 x.2.2.1 w)) (law06_SpringJudges_Eok K) (law06_SpringJudges_Rok K) rfl (fun _ _ => by kernel_rfl)
noncomputable def law06_SpringJudges_s1_se (K : Nat) : SE := stmtN [(1, .addr), (2, .bool), (3, .addr)] [(2, .bool)] [(2, 3), (38, 50)] (fun x w => law06_SpringJudges_s1 K x.1 x.2.1 x.2.2.1 w)
theorem law06_SpringJudges_s1_se_ok (K : Nat) (R : Rg) (h : subRB [(2, 3), (38, 50)] R = true) : (law06_SpringJudges_s1_se K).Ok prog R (cd (bodyOf f4) [1, 1, 1, 0]) := stmtN_ok (Li := [(1, .addr), (2, .bool), (3, .addr)]) (Lo := [(2, .bool)]) (S := (fun x w => law06_SpringJudges_s1 K x.1 x.2.1 x.2.2.1 w)) (law06_SpringJudges_s1_ok K) (subR_of h)
theorem law06_SpringJudges_facts : FunFacts prog 4 f4 (bodyOf f4) [(0, .agg)] [(0, 50)] := ⟨func4, by kernel_rfl, by kernel_rfl, by kernel_rfl, by kernel_rfl, by kernel_rfl⟩
theorem law06_SpringJudges_calls (K : Nat) (x : TT [(0, .agg)]) (w : World) (y : TR [.bool]) (w2 : World) (h : law06_SpringJudges K x.1 w = some (y, w2)) : Calls prog 4 (encA [(0, .agg)] x).toArray w (fun e w3 => e = .returned (resV (encR [.bool] y)) ∧ w3 = w2) :=
    mk_fun (O := tabL [([1, 1, 0, 1], law06_SpringJudges_l0_se K), ([1, 1, 1, 0], law06_SpringJudges_s1_se K)]) (Lp := [(0, .agg)]) (Rt := [.bool]) (S := (fun x w => law06_SpringJudges K x.1 w)) (law06_SpringJudges_Eok K) (law06_SpringJudges_Rok K) rfl law06_SpringJudges_facts (Orc.cons (by kernel_rfl) (law06_SpringJudges_l0_se_ok K [(0, 50)] (by kernel_rfl)) (Orc.cons (by kernel_rfl) (law06_SpringJudges_s1_se_ok K [(0, 50)] (by kernel_rfl)) (Orc.nil _ _ _))) (fun _ _ => by kernel_rfl) x w y w2 h
noncomputable def law06_SpringJudges_ce (K : Nat) : CE := funE [(0, .agg)] [.bool] (fun x w => law06_SpringJudges K x.1 w)
theorem law06_SpringJudges_ok (K : Nat) : (law06_SpringJudges_ce K).Ok prog 4 := funE_ok (Rt := [.bool]) (S := (fun x w => law06_SpringJudges K x.1 w)) law06_SpringJudges_facts fun x w y w2 h => law06_SpringJudges_calls K x w y w2 h

noncomputable def spring_walk_E : List (Nat × CE) := []
theorem spring_walk_Eok : Env.Ok prog (tab (spring_walk_E)) := (Env.nil _)
noncomputable def spring_walk_R : List (Nat × RE) := []
theorem spring_walk_Rok : REnv.Ok prog (tab (spring_walk_R)) := (REnv.nil _)
/-- coffer/spring.walk -/
noncomputable def spring_walk (k0 : Int) (w : World) : Option ((Value × Unit) × World) :=
  bnd (newB #[(.int .i64 k0)] 3 w) fun p_1 w_2 =>
  bnd (newB z62 62 w_2) fun at_3 w_4 =>
  some (((.func (.func 29) #[] #[(.pointer (some at_3)), (.pointer (some p_1))]), ()), w_4)
theorem spring_walk_facts : FunFacts prog 20 f20 (bodyOf f20) [(0, .int .i64)] [(0, 5)] := ⟨func20, by kernel_rfl, by kernel_rfl, by kernel_rfl, by kernel_rfl, by kernel_rfl⟩
theorem spring_walk_calls (x : TT [(0, .int .i64)]) (w : World) (y : TR [.val]) (w2 : World) (h : spring_walk x.1 w = some (y, w2)) : Calls prog 20 (encA [(0, .int .i64)] x).toArray w (fun e w3 => e = .returned (resV (encR [.val] y)) ∧ w3 = w2) :=
    mk_fun (O := tabL []) (Lp := [(0, .int .i64)]) (Rt := [.val]) (S := (fun x w => spring_walk x.1 w)) (spring_walk_Eok) (spring_walk_Rok) rfl spring_walk_facts (Orc.nil _ _ _) (fun _ _ => by kernel_rfl) x w y w2 h
noncomputable def spring_walk_ce : CE := funE [(0, .int .i64)] [.val] (fun x w => spring_walk x.1 w)
theorem spring_walk_ok : (spring_walk_ce).Ok prog 20 := funE_ok (Rt := [.val]) (S := (fun x w => spring_walk x.1 w)) spring_walk_facts fun x w y w2 h => spring_walk_calls x w y w2 h

end Go.Sh

/- What functions of the program do, as Lean functions; that the machine does just that. Printed by shal.py, a program of this claim's writer. -/
set_option maxRecDepth 100000
set_option linter.unusedVariables false
namespace Go.Sh
open Go.Fw Go.Proofs.Try

noncomputable def spring_window_next_E : List (Nat × CE) := []
theorem spring_window_next_Eok : Env.Ok prog (tab (spring_window_next_E)) := (Env.nil _)
noncomputable def spring_window_next_R : List (Nat × RE) := []
theorem spring_window_next_Rok : REnv.Ok prog (tab (spring_window_next_R)) := (REnv.nil _)
noncomputable def spring_window_next_s0 (w0 : Option Addr) (b1 : Sl) (i2 : Int) (a7 : Bool) (w : World) : Option ((Unit) × World) :=
  if a7 = true then ((b1.a).bind fun p_1 =>
  if (0 : Int) ≤ (IntKind.i64.wrap (i2 - 512)) ∧ (IntKind.i64.wrap (i2 - 512)) < ((b1.len : Nat) : Int) then ((w0).bind fun p_2 =>
  (w0).bind fun p_3 =>
  (ldI .u8 (p_1.add ((Int.toNat (IntKind.i64.wrap (i2 - 512))) * 1)) w.drew).bind fun v_4 =>
  if (0 : Int) ≤ v_4 ∧ v_4 < ((256 : Nat) : Int) then ((ldI .i64 ((p_2.add 0).add ((Int.toNat v_4) * 1)) w.drew).bind fun v_5 =>
  if (0 : Int) ≤ v_4 ∧ v_4 < ((256 : Nat) : Int) then ((stC ((p_3.add 0).add ((Int.toNat v_4) * 1)) (.int .i64 (IntKind.i64.wrap (v_5 - 1))) w.drew).bind fun w_6 =>
  some ((), w_6)) else none) else none) else none) else (some ((), w))
/-- (*coffer/spring.window).next -/
noncomputable def spring_window_next (w0 : Option Addr) (b1 : Sl) (i2 : Int) (w : World) : Option ((Unit) × World) :=
  bnd (spring_window_next_s0 w0 b1 i2 (decide (i2 ≥ 512)) w) fun y_7 w_8 =>
  (b1.a).bind fun p_9 =>
  if (0 : Int) ≤ i2 ∧ i2 < ((b1.len : Nat) : Int) then ((w0).bind fun p_10 =>
  (w0).bind fun p_11 =>
  (ldI .u8 (p_9.add ((Int.toNat i2) * 1)) w_8.drew).bind fun v_12 =>
  if (0 : Int) ≤ v_12 ∧ v_12 < ((256 : Nat) : Int) then ((ldI .i64 ((p_10.add 0).add ((Int.toNat v_12) * 1)) w_8.drew).bind fun v_13 =>
  if (0 : Int) ≤ v_12 ∧ v_12 < ((256 : Nat) : Int) then ((stC ((p_11.add 0).add ((Int.toNat v_12) * 1)) (.int .i64 (IntKind.i64.wrap (v_13 + 1))) w_8.drew).bind fun w_14 =>
  (w0).bind fun p_15 =>
  (b1.a).bind fun p_16 =>
  if (0 : Int) ≤ i2 ∧ i2 < ((b1.len : Nat) : Int) then ((w0).bind fun p_17 =>
  (ldI .i64 (p_15.add 256) w_14.drew).bind fun v_18 =>
  (ldI .u8 (p_16.add ((Int.toNat i2) * 1)) w_14.drew).bind fun v_19 =>
  if (0 : Int) ≤ v_19 ∧ v_19 < ((256 : Nat) : Int) then ((ldI .i64 ((p_17.add 0).add ((Int.toNat v_19) * 1)) w_14.drew).bind fun v_20 =>
  (w0).bind fun p_21 =>
  (stC (p_21.add 256) (.int .i64 (if v_20 > v_18 then v_20 else v_18)) w_14.drew).bind fun w_22 =>
  some ((), w_22)) else none) else none) else none) else none) else none
theorem spring_window_next_s0_ok : StmtNOk prog [(0, .ptr), (1, .sl), (2, .int .i64), (7, .bool)] [] [(8, 22)] (fun x w => spring_window_next_s0 x.1 x.2.1 x.2.2.1 x.2.2.2.1 w) (cd (bodyOf f21) [0, 1]) :=
    mk_stmtN (O := tabL []) (root := (bodyOf f21)) (π := [0, 1]) (Li := [(0, .ptr), (1, .sl), (2, .int .i64), (7, .bool)]) (Lo := []) (S := (fun x w => spring_window_next_s0 x.1 x.2.1 x.2.2.1 x.2.2.2.1 w)) (spring_window_next_Eok) (spring_window_next_Rok) rfl (Orc.nil _ _ _) (by kernel_rfl) (fun _ _ => by kernel_rfl)
noncomputable def spring_window_next_s0_se : SE := stmtN [(0, .ptr), (1, .sl), (2, .int .i64), (7, .bool)] [] [(8, 22)] (fun x w => spring_window_next_s0 x.1 x.2.1 x.2.2.1 x.2.2.2.1 w)
theorem spring_window_next_s0_se_ok (R : Rg) (h : subRB [(8, 22)] R = true) : (spring_window_next_s0_se).Ok prog R (cd (bodyOf f21) [0, 1]) := stmtN_ok (Li := [(0, .ptr), (1, .sl), (2, .int .i64), (7, .bool)]) (Lo := []) (S := (fun x w => spring_window_next_s0 x.1 x.2.1 x.2.2.1 x.2.2.2.1 w)) (spring_window_next_s0_ok) (subR_of h)
theorem spring_window_next_facts : FunFacts prog 21 f21 (bodyOf f21) [(0, .ptr), (1, .sl), (2, .int .i64)] [(0, 52)] := ⟨func21, by kernel_rfl, by kernel_rfl, by kernel_rfl, by kernel_rfl, by kernel_rfl⟩
theorem spring_window_next_calls (x : TT [(0, .ptr), (1, .sl), (2, .int .i64)]) (w : World) (y : TR []) (w2 : World) (h : spring_window_next x.1 x.2.1 x.2.2.1 w = some (y, w2)) : Calls prog 21 (encA [(0, .ptr), (1, .sl), (2, .int .i64)] x).toArray w (fun e w3 => e = .returned (resV (encR [] y)) ∧ w3 = w2) :=
    mk_fun (O := tabL [([0, 1], spring_window_next_s0_se)]) (Lp := [(0, .ptr), (1, .sl), (2, .int .i64)]) (Rt := []) (S := (fun x w => spring_window_next x.1 x.2.1 x.2.2.1 w)) (spring_window_next_Eok) (spring_window_next_Rok) rfl spring_window_next_facts (Orc.cons (by kernel_rfl) (spring_window_next_s0_se_ok [(0, 52)] (by kernel_rfl)) (Orc.nil _ _ _)) (fun _ _ => by kernel_rfl) x w y w2 h
noncomputable def spring_window_next_ce : CE := funE [(0, .ptr), (1, .sl), (2, .int .i64)] [] (fun x w => spring_window_next x.1 x.2.1 x.2.2.1 w)
theorem spring_window_next_ok : (spring_window_next_ce).Ok prog 21 := funE_ok (Rt := []) (S := (fun x w => spring_window_next x.1 x.2.1 x.2.2.1 w)) spring_window_next_facts fun x w y w2 h => spring_window_next_calls x w y w2 h

noncomputable def bits_OnesCount8_R : List (Nat × RE) := []
theorem bits_OnesCount8_Rok : REnv.Ok prog (tab (bits_OnesCount8_R)) := (REnv.nil _)
/-- math/bits.OnesCount8 -/
noncomputable def bits_OnesCount8 (x0 : Int) : Option (Int × Unit) :=
  if (0 : Int) ≤ x0 then ((str0[(Int.toNat x0)]?).bind fun b_1 =>
  some ((IntKind.i64.wrap ((b_1.toNat : Nat) : Int)), ())) else none
theorem bits_OnesCount8_facts : FunFacts prog 22 f22 (bodyOf f22) [(0, .int .u8)] [(0, 6)] := ⟨func22, by kernel_rfl, by kernel_rfl, by kernel_rfl, by kernel_rfl, by kernel_rfl⟩
theorem bits_OnesCount8_calls (x : TT [(0, .int .u8)]) (w : World) (y : TR [.int .i64]) (h : bits_OnesCount8 x.1 = some y) : Calls prog 22 (encA [(0, .int .u8)] x).toArray w (fun e w3 => e = .returned (resV (encR [.int .i64] y)) ∧ w3 = w) :=
    mk_funQ (O := tabL []) (Lp := [(0, .int .u8)]) (Rt := [.int .i64]) (S := (fun x w => bits_OnesCount8 x.1)) (bits_OnesCount8_Rok) bits_OnesCount8_facts (OrcQ.nil _ _ _) (fun _ _ => by kernel_rfl) x w y h
noncomputable def bits_OnesCount8_re : RE := funR [(0, .int .u8)] [.int .i64] (fun x w => bits_OnesCount8 x.1)
theorem bits_OnesCount8_ok : (bits_OnesCount8_re).Ok prog 22 := funR_ok (Rt := [.int .i64]) (S := (fun x w => bits_OnesCount8 x.1)) bits_OnesCount8_facts fun x w y h => bits_OnesCount8_calls x w y h

noncomputable def law06_again_E (K : Nat) : List (Nat × CE) := []
theorem law06_again_Eok (K : Nat) : Env.Ok prog (tab (law06_again_E K)) := (Env.nil _)
noncomputable def law06_again_R (K : Nat) : List (Nat × RE) := []
theorem law06_again_Rok (K : Nat) : REnv.Ok prog (tab (law06_again_R K)) := (REnv.nil _)
noncomputable def law06_again_l0_b (K : Nat) (rec : Sl → Int → Sl → Int → World → Option ((Sl × Unit) × World)) (b0 : Sl) (n1 : Int) (out5 : Sl) (i6 : Int) (w : World) : Option ((Sl × Unit) × World) :=
  if (decide (i6 < n1)) = true then (bnd (apd prog 39 39 (.slice out5.a out5.len out5.cap) (.slice b0.a b0.len b0.cap) w) fun s_1 w_2 =>
  rec b0 n1 s_1 (IntKind.i64.wrap (i6 + 1)) w_2) else (some ((out5, ()), w))
noncomputable def law06_again_l0 (K : Nat) (n : Nat) : Sl → Int → Sl → Int → World → Option ((Sl × Unit) × World) := iter (fun _ _ _ _ _ => none) (law06_again_l0_b K) n
/-- coffer/cofferlaw06.again -/
noncomputable def law06_again (K : Nat) (b0 : Sl) (n1 : Int) (w : World) : Option ((Sl × Unit) × World) :=
  bnd (law06_again_l0 K K b0 n1 ⟨none, 0, 0⟩ 0 w) fun y_3 w_4 =>
  some ((y_3.1, ()), w_4)
theorem law06_again_l0_ok (K : Nat) (n : Nat) : StmtNOk prog [(0, .sl), (1, .int .i64), (5, .sl), (6, .int .i64)] [(5, .sl)] [(5, 15)] ((fun n x w => law06_again_l0 K n x.1 x.2.1 x.2.2.1 x.2.2.2.1 w) n) (.block 0 (.loop (cd (bodyOf f13) [1, 1, 0, 1, 0, 0]))) :=
    mk_loopN (O := tabL []) (root := (bodyOf f13)) (π := [1, 1, 0, 1, 0, 0]) (id := 0) (Li := [(0, .sl), (1, .int .i64), (5, .sl), (6, .int .i64)]) (Lo := [(5, .sl)]) (S := (fun n x w => law06_again_l0 K n x.1 x.2.1 x.2.2.1 x.2.2.2.1 w)) (body := cd (bodyOf f13) [1, 1, 0, 1, 0, 0]) (law06_again_Eok K) (law06_again_Rok K) rfl (Orc.nil _ _ _) (by kernel_rfl) (fun _ _ => by kernel_rfl) (fun _ _ _ => by kernel_rfl) n
noncomputable def law06_again_l0_se (K : Nat) : SE := stmtN [(0, .sl), (1, .int .i64), (5, .sl), (6, .int .i64)] [(5, .sl)] [(5, 15)] (fun x w => law06_again_l0 K K x.1 x.2.1 x.2.2.1 x.2.2.2.1 w)
theorem law06_again_l0_se_ok (K : Nat) (R : Rg) (h : subRB [(5, 15)] R = true) : (law06_again_l0_se K).Ok prog R (.block 0 (.loop (cd (bodyOf f13) [1, 1, 0, 1, 0, 0]))) := stmtN_ok (Li := [(0, .sl), (1, .int .i64), (5, .sl), (6, .int .i64)]) (Lo := [(5, .sl)]) (S := (fun x w => law06_again_l0 K K x.1 x.2.1 x.2.2.1 x.2.2.2.1 w)) (law06_again_l0_ok K K) (subR_of h)
theorem law06_again_facts : FunFacts prog 13 f13 (bodyOf f13) [(0, .sl), (1, .int .i64)] [(0, 16)] := ⟨func13, by kernel_rfl, by kernel_rfl, by kernel_rfl, by kernel_rfl, by kernel_rfl⟩
theorem law06_again_calls (K : Nat) (x : TT [(0, .sl), (1, .int .i64)]) (w : World) (y : TR [.sl]) (w2 : World) (h : law06_again K x.1 x.2.1 w = some (y, w2)) : Calls prog 13 (encA [(0, .sl), (1, .int .i64)] x).toArray w (fun e w3 => e = .returned (resV (encR [.sl] y)) ∧ w3 = w2) :=
    mk_fun (O := tabL [([1, 1, 0, 1], law06_again_l0_se K)]) (Lp := [(0, .sl), (1, .int .i64)]) (Rt := [.sl]) (S := (fun x w => law06_again K x.1 x.2.1 w)) (law06_again_Eok K) (law06_again_Rok K) rfl law06_again_facts (Orc.cons (by kernel_rfl) (law06_again_l0_se_ok K [(0, 16)] (by kernel_rfl)) (Orc.nil _ _ _)) (fun _ _ => by kernel_rfl) x w y w2 h
noncomputable def law06_again_ce (K : Nat) : CE := funE [(0, .sl), (1, .int .i64)] [.sl] (fun x w => law06_again K x.1 x.2.1 w)
theorem law06_again_ok (K : Nat) : (law06_again_ce K).Ok prog 13 := funE_ok (Rt := [.sl]) (S := (fun x w => law06_again K x.1 x.2.1 w)) law06_again_facts fun x w y w2 h => law06_again_calls K x w y w2 h

noncomputable def book_Bytes_E (K : Nat) : List (Nat × CE) := []
theorem book_Bytes_Eok (K : Nat) : Env.Ok prog (tab (book_Bytes_E K)) := (Env.nil _)
noncomputable def book_Bytes_R (K : Nat) : List (Nat × RE) := []
theorem book_Bytes_Rok (K : Nat) : REnv.Ok prog (tab (book_Bytes_R K)) := (REnv.nil _)
noncomputable def book_Bytes_l0_b (K : Nat) (rec : Sl → Sl → Int → World → Option ((Sl × Unit) × World)) (l0 : Sl) (c3 : Sl) (i4 : Int) (w : World) : Option ((Sl × Unit) × World) :=
  if (decide (i4 < 70)) = true then (bnd (bldS prog 39 1 #[(0, (.int .u8 (IntKind.u8.wrap (IntKind.i64.wrap (181 + i4)))))] w) fun s_3 w_4 =>
  bnd (apd prog 39 39 (.slice c3.a c3.len c3.cap) (.slice s_3.a s_3.len s_3.cap) w_4) fun s_5 w_6 =>
  rec l0 s_5 (IntKind.i64.wrap (i4 + 1)) w_6) else (some ((c3, ()), w))
noncomputable def book_Bytes_l0 (K : Nat) (n : Nat) : Sl → Sl → Int → World → Option ((Sl × Unit) × World) := iter (fun _ _ _ _ => none) (book_Bytes_l0_b K) n
/-- coffer/cofferbook.Bytes -/
noncomputable def book_Bytes (K : Nat) (l0 : Sl) (w : World) : Option ((Sl × Unit) × World) :=
  bnd (apd prog 39 39 (.slice none 0 0) (.slice l0.a l0.len l0.cap) w) fun s_1 w_2 =>
  bnd (book_Bytes_l0 K K l0 s_1 0 w_2) fun y_7 w_8 =>
  if (0 : Int) ≤ ((l0.len : Nat) : Int) ∧ ((l0.len : Nat) : Int) ≤ ((y_7.1.cap : Nat) : Int) then (some ((⟨(sla y_7.1.a 0 y_7.1.cap 1), ((Int.toNat (((l0.len : Nat) : Int))) - 0), (y_7.1.cap - 0)⟩, ()), w_8)) else none
theorem book_Bytes_l0_ok (K : Nat) (n : Nat) : StmtNOk prog [(0, .sl), (3, .sl), (4, .int .i64)] [(3, .sl)] [(3, 5), (9, 19)] ((fun n x w => book_Bytes_l0 K n x.1 x.2.1 x.2.2.1 w) n) (.block 0 (.loop (cd (bodyOf f14) [1, 1, 1, 0, 1, 0, 0]))) :=
    mk_loopN (O := tabL []) (root := (bodyOf f14)) (π := [1, 1, 1, 0, 1, 0, 0]) (id := 0) (Li := [(0, .sl), (3, .sl), (4, .int .i64)]) (Lo := [(3, .sl)]) (S := (fun n x w => book_Bytes_l0 K n x.1 x.2.1 x.2.2.1 w)) (body := cd (bodyOf f14) [1, 1, 1, 0, 1, 0, 0]) (book_Bytes_Eok K) (book_Bytes_Rok K) rfl (Orc.nil _ _ _) (by kernel_rfl) (fun _ _ => by kernel_rfl) (fun _ _ _ => by kernel_rfl) n
noncomputable def book_Bytes_l0_se (K : Nat) : SE := stmtN [(0, .sl), (3, .sl), (4, .int .i64)] [(3, .sl)] [(3, 5), (9, 19)] (fun x w => book_Bytes_l0 K K x.1 x.2.1 x.2.2.1 w)
theorem book_Bytes_l0_se_ok (K : Nat) (R : Rg) (h : subRB [(3, 5), (9, 19)] R = true) : (book_Bytes_l0_se K).Ok prog R (.block 0 (.loop (cd (bodyOf f14) [1, 1, 1, 0, 1, 0, 0]))) := stmtN_ok (Li := [(0, .sl), (3, .sl), (4, .int .i64)]) (Lo := [(3, .sl)]) (S := (fun x w => book_Bytes_l0 K K x.1 x.2.1 x.2.2.1 w)) (book_Bytes_l0_ok K K) (subR_of h)
theorem book_Bytes_facts : FunFacts prog 14 f14 (bodyOf f14) [(0, .sl)] [(0, 24)] := ⟨func14, by kernel_rfl, by kernel_rfl, by kernel_rfl, by kernel_rfl, by kernel_rfl⟩
theorem book_Bytes_calls (K : Nat) (x : TT [(0, .sl)]) (w : World) (y : TR [.sl]) (w2 : World) (h : book_Bytes K x.1 w = some (y, w2)) : Calls prog 14 (encA [(0, .sl)] x).toArray w (fun e w3 => e = .returned (resV (encR [.sl] y)) ∧ w3 = w2) :=
    mk_fun (O := tabL [([1, 1, 1, 0, 1], book_Bytes_l0_se K)]) (Lp := [(0, .sl)]) (Rt := [.sl]) (S := (fun x w => book_Bytes K x.1 w)) (book_Bytes_Eok K) (book_Bytes_Rok K) rfl book_Bytes_facts (Orc.cons (by kernel_rfl) (book_Bytes_l0_se_ok K [(0, 24)] (by kernel_rfl)) (Orc.nil _ _ _)) (fun _ _ => by kernel_rfl) x w y w2 h
noncomputable def book_Bytes_ce (K : Nat) : CE := funE [(0, .sl)] [.sl] (fun x w => book_Bytes K x.1 w)
theorem book_Bytes_ok (K : Nat) : (book_Bytes_ce K).Ok prog 14 := funE_ok (Rt := [.sl]) (S := (fun x w => book_Bytes K x.1 w)) book_Bytes_facts fun x w y w2 h => book_Bytes_calls K x w y w2 h

noncomputable def ref06_most_E (K : Nat) : List (Nat × CE) := []
theorem ref06_most_Eok (K : Nat) : Env.Ok prog (tab (ref06_most_E K)) := (Env.nil _)
noncomputable def ref06_most_R (K : Nat) : List (Nat × RE) := []
theorem ref06_most_Rok (K : Nat) : REnv.Ok prog (tab (ref06_most_R K)) := (REnv.nil _)
noncomputable def ref06_most_s1 (K : Nat) (b0 : Sl) (often3 : Addr) (i5 : Int) (a21 : Bool) (w : World) : Option ((Unit) × World) :=
  if a21 = true then ((b0.a).bind fun p_7 =>
  if (0 : Int) ≤ (IntKind.i64.wrap (i5 - 512)) ∧ (IntKind.i64.wrap (i5 - 512)) < ((b0.len : Nat) : Int) then ((ldI .u8 (p_7.add ((Int.toNat (IntKind.i64.wrap (i5 - 512))) * 1)) w).bind fun v_8 =>
  if (0 : Int) ≤ v_8 ∧ v_8 < ((256 : Nat) : Int) then ((ldI .i64 (often3.add ((Int.toNat v_8) * 1)) w).bind fun v_9 =>
  if (0 : Int) ≤ v_8 ∧ v_8 < ((256 : Nat) : Int) then ((stC (often3.add ((Int.toNat v_8) * 1)) (.int .i64 (IntKind.i64.wrap (v_9 - 1))) w).bind fun w_10 =>
  some ((), w_10)) else none) else none) else none) else (some ((), w))
noncomputable def ref06_most_l0_b (K : Nat) (rec : Sl → Addr → Int → Int → World → Option ((Int × Unit) × World)) (b0 : Sl) (often3 : Addr) (m4 : Int) (i5 : Int) (w : World) : Option ((Int × Unit) × World) :=
  if (decide (i5 < ((b0.len : Nat) : Int))) = true then ((b0.a).bind fun p_3 =>
  if (0 : Int) ≤ i5 ∧ i5 < ((b0.len : Nat) : Int) then ((ldI .u8 (p_3.add ((Int.toNat i5) * 1)) w).bind fun v_4 =>
  if (0 : Int) ≤ v_4 ∧ v_4 < ((256 : Nat) : Int) then ((ldI .i64 (often3.add ((Int.toNat v_4) * 1)) w).bind fun v_5 =>
  if (0 : Int) ≤ v_4 ∧ v_4 < ((256 : Nat) : Int) then ((stC (often3.add ((Int.toNat v_4) * 1)) (.int .i64 (IntKind.i64.wrap (v_5 + 1))) w).bind fun w_6 =>
  bnd (ref06_most_s1 K b0 often3 i5 (decide (i5 ≥ 512)) w_6) fun y_11 w_12 =>
  (b0.a).bind fun p_13 =>
  if (0 : Int) ≤ i5 ∧ i5 < ((b0.len : Nat) : Int) then ((ldI .u8 (p_13.add ((Int.toNat i5) * 1)) w_12).bind fun v_14 =>
  if (0 : Int) ≤ v_14 ∧ v_14 < ((256 : Nat) : Int) then ((ldI .i64 (often3.add ((Int.toNat v_14) * 1)) w_12).bind fun v_15 =>
  rec b0 often3 (if v_15 > m4 then v_15 else m4) (IntKind.i64.wrap (i5 + 1)) w_12) else none) else none) else none) else none) else none) else (some ((m4, ()), w))
noncomputable def ref06_most_l0 (K : Nat) (n : Nat) : Sl → Addr → Int → Int → World → Option ((Int × Unit) × World) := iter (fun _ _ _ _ _ => none) (ref06_most_l0_b K) n
/-- coffer/cofferref06.most -/
noncomputable def ref06_most (K : Nat) (b0 : Sl) (w : World) : Option ((Int × Unit) × World) :=
  bnd (newB z54 54 w) fun often_1 w_2 =>
  bnd (ref06_most_l0 K K b0 often_1 0 0 w_2) fun y_16 w_17 =>
  some ((y_16.1, ()), w_17)
theorem ref06_most_s1_ok (K : Nat) : StmtNOk prog [(0, .sl), (3, .addr), (5, .int .i64), (21, .bool)] [] [(22, 31)] (fun x w => ref06_most_s1 K x.1 x.2.1 x.2.2.1 x.2.2.2.1 w) (cd (bodyOf f24) [1, 1, 1, 0, 1, 0, 0, 1, 0, 0, 1, 0, 1]) :=
    mk_stmtN (O := tabL []) (root := (bodyOf f24)) (π := [1, 1, 1, 0, 1, 0, 0, 1, 0, 0, 1, 0, 1]) (Li := [(0, .sl), (3, .addr), (5, .int .i64), (21, .bool)]) (Lo := []) (S := (fun x w => ref06_most_s1 K x.1 x.2.1 x.2.2.1 x.2.2.2.1 w)) (ref06_most_Eok K) (ref06_most_Rok K) rfl (Orc.nil _ _ _) (by kernel_rfl) (fun _ _ => by kernel_rfl)
noncomputable def ref06_most_s1_se (K : Nat) : SE := stmtN [(0, .sl), (3, .addr), (5, .int .i64), (21, .bool)] [] [(22, 31)] (fun x w => ref06_most_s1 K x.1 x.2.1 x.2.2.1 x.2.2.2.1 w)
theorem ref06_most_s1_se_ok (K : Nat) (R : Rg) (h : subRB [(22, 31)] R = true) : (ref06_most_s1_se K).Ok prog R (cd (bodyOf f24) [1, 1, 1, 0, 1, 0, 0, 1, 0, 0, 1, 0, 1]) := stmtN_ok (Li := [(0, .sl), (3, .addr), (5, .int .i64), (21, .bool)]) (Lo := []) (S := (fun x w => ref06_most_s1 K x.1 x.2.1 x.2.2.1 x.2.2.2.1 w)) (ref06_most_s1_ok K) (subR_of h)
theorem ref06_most_l0_ok (K : Nat) (n : Nat) : StmtNOk prog [(0, .sl), (3, .addr), (4, .int .i64), (5, .int .i64)] [(4, .int .i64)] [(4, 39)] ((fun n x w => ref06_most_l0 K n x.1 x.2.1 x.2.2.1 x.2.2.2.1 w) n) (.block 0 (.loop (cd (bodyOf f24) [1, 1, 1, 0, 1, 0, 0]))) :=
    mk_loopN (O := tabL [([1, 1, 1, 0, 1, 0, 0, 1, 0, 0, 1, 0, 1], ref06_most_s1_se K)]) (root := (bodyOf f24)) (π := [1, 1, 1, 0, 1, 0, 0]) (id := 0) (Li := [(0, .sl), (3, .addr), (4, .int .i64), (5, .int .i64)]) (Lo := [(4, .int .i64)]) (S := (fun n x w => ref06_most_l0 K n x.1 x.2.1 x.2.2.1 x.2.2.2.1 w)) (body := cd (bodyOf f24) [1, 1, 1, 0, 1, 0, 0]) (ref06_most_Eok K) (ref06_most_Rok K) rfl (Orc.cons (by kernel_rfl) (ref06_most_s1_se_ok K [(4, 39)] (by kernel_rfl)) (Orc.nil _ _ _)) (by kernel_rfl) (fun _ _ => by kernel_rfl) (fun _ _ _ => by kernel_rfl) n
noncomputable def ref06_most_l0_se (K : Nat) : SE := stmtN [(0, .sl), (3, .addr), (4, .int .i64), (5, .int .i64)] [(4, .int .i64)] [(4, 39)] (fun x w => ref06_most_l0 K K x.1 x.2.1 x.2.2.1 x.2.2.2.1 w)
theorem ref06_most_l0_se_ok (K : Nat) (R : Rg) (h : subRB [(4, 39)] R = true) : (ref06_most_l0_se K).Ok prog R (.block 0 (.loop (cd (bodyOf f24) [1, 1, 1, 0, 1, 0, 0]))) := stmtN_ok (Li := [(0, .sl), (3, .addr), (4, .int .i64), (5, .int .i64)]) (Lo := [(4, .int .i64)]) (S := (fun x w => ref06_most_l0 K K x.1 x.2.1 x.2.2.1 x.2.2.2.1 w)) (ref06_most_l0_ok K K) (subR_of h)
theorem ref06_most_facts : FunFacts prog 24 f24 (bodyOf f24) [(0, .sl)] [(0, 40)] := ⟨func24, by kernel_rfl, by kernel_rfl, by kernel_rfl, by kernel_rfl, by kernel_rfl⟩
theorem ref06_most_calls (K : Nat) (x : TT [(0, .sl)]) (w : World) (y : TR [.int .i64]) (w2 : World) (h : ref06_most K x.1 w = some (y, w2)) : Calls prog 24 (encA [(0, .sl)] x).toArray w (fun e w3 => e = .returned (resV (encR [.int .i64] y)) ∧ w3 = w2) :=
    mk_fun (O := tabL [([1, 1, 1, 0, 1], ref06_most_l0_se K), ([1, 1, 1, 0, 1, 0, 0, 1, 0, 0, 1, 0, 1], ref06_most_s1_se K)]) (Lp := [(0, .sl)]) (Rt := [.int .i64]) (S := (fun x w => ref06_most K x.1 w)) (ref06_most_Eok K) (ref06_most_Rok K) rfl ref06_most_facts (Orc.cons (by kernel_rfl) (ref06_most_l0_se_ok K [(0, 40)] (by kernel_rfl)) (Orc.cons (by kernel_rfl) (ref06_most_s1_se_ok K [(0, 40)] (by kernel_rfl)) (Orc.nil _ _ _))) (fun _ _ => by kernel_rfl) x w y w2 h
noncomputable def ref06_most_ce (K : Nat) : CE := funE [(0, .sl)] [.int .i64] (fun x w => ref06_most K x.1 w)
theorem ref06_most_ok (K : Nat) : (ref06_most_ce K).Ok prog 24 := funE_ok (Rt := [.int .i64]) (S := (fun x w => ref06_most K x.1 w)) ref06_most_facts fun x w y w2 h => ref06_most_calls K x w y w2 h

noncomputable def ref06_poker_E (K : Nat) : List (Nat × CE) := []
theorem ref06_poker_Eok (K : Nat) : Env.Ok prog (tab (ref06_poker_E K)) := (Env.nil _)
noncomputable def ref06_poker_R (K : Nat) : List (Nat × RE) := []
theorem ref06_poker_Rok (K : Nat) : REnv.Ok prog (tab (ref06_poker_R K)) := (REnv.nil _)
noncomputable def ref06_poker_l0_b (K : Nat) (rec : Sl → Addr → Int → World → Option ((Unit) × World)) (b0 : Sl) (often3 : Addr) (i4 : Int) (w : World) : Option ((Unit) × World) :=
  if (decide (i4 < ((b0.len : Nat) : Int))) = true then ((b0.a).bind fun p_3 =>
  if (0 : Int) ≤ i4 ∧ i4 < ((b0.len : Nat) : Int) then ((ldI .u8 (p_3.add ((Int.toNat i4) * 1)) w).bind fun v_4 =>
  if (0 : Int) ≤ (IntKind.u8.wrap (Int.tdiv v_4 16)) ∧ (IntKind.u8.wrap (Int.tdiv v_4 16)) < ((16 : Nat) : Int) then ((ldI .i64 (often3.add ((Int.toNat (IntKind.u8.wrap (Int.tdiv v_4 16))) * 1)) w).bind fun v_5 =>
  if (0 : Int) ≤ (IntKind.u8.wrap (Int.tdiv v_4 16)) ∧ (IntKind.u8.wrap (Int.tdiv v_4 16)) < ((16 : Nat) : Int) then ((stC (often3.add ((Int.toNat (IntKind.u8.wrap (Int.tdiv v_4 16))) * 1)) (.int .i64 (IntKind.i64.wrap (v_5 + 1))) w).bind fun w_6 =>
  (b0.a).bind fun p_7 =>
  if (0 : Int) ≤ i4 ∧ i4 < ((b0.len : Nat) : Int) then ((ldI .u8 (p_7.add ((Int.toNat i4) * 1)) w_6).bind fun v_8 =>
  if (0 : Int) ≤ (Int.tmod v_8 16) ∧ (Int.tmod v_8 16) < ((16 : Nat) : Int) then ((ldI .i64 (often3.add ((Int.toNat (Int.tmod v_8 16)) * 1)) w_6).bind fun v_9 =>
  if (0 : Int) ≤ (Int.tmod v_8 16) ∧ (Int.tmod v_8 16) < ((16 : Nat) : Int) then ((stC (often3.add ((Int.toNat (Int.tmod v_8 16)) * 1)) (.int .i64 (IntKind.i64.wrap (v_9 + 1))) w_6).bind fun w_10 =>
  rec b0 often3 (IntKind.i64.wrap (i4 + 1)) w_10) else none) else none) else none) else none) else none) else none) else (some ((), w))
noncomputable def ref06_poker_l0 (K : Nat) (n : Nat) : Sl → Addr → Int → World → Option ((Unit) × World) := iter (fun _ _ _ _ => none) (ref06_poker_l0_b K) n
noncomputable def ref06_poker_l1_b (K : Nat) (rec : Addr → Int → Int → World → Option ((Int × Unit) × World)) (often3 : Addr) (sum5 : Int) (i6 : Int) (w : World) : Option ((Int × Unit) × World) :=
  if (decide (i6 < 16)) = true then (if (0 : Int) ≤ i6 ∧ i6 < ((16 : Nat) : Int) then (if (0 : Int) ≤ i6 ∧ i6 < ((16 : Nat) : Int) then ((ldI .i64 (often3.add ((Int.toNat i6) * 1)) w.drew).bind fun v_13 =>
  (ldI .i64 (often3.add ((Int.toNat i6) * 1)) w.drew).bind fun v_14 =>
  rec often3 (IntKind.i64.wrap (sum5 + (IntKind.i64.wrap (v_13 * v_14)))) (IntKind.i64.wrap (i6 + 1)) w.drew) else none) else none) else (some ((sum5, ()), w))
noncomputable def ref06_poker_l1 (K : Nat) (n : Nat) : Addr → Int → Int → World → Option ((Int × Unit) × World) := iter (fun _ _ _ _ => none) (ref06_poker_l1_b K) n
/-- coffer/cofferref06.poker -/
noncomputable def ref06_poker (K : Nat) (b0 : Sl) (w : World) : Option ((Int × Unit) × World) :=
  bnd (newB z57 57 w) fun often_1 w_2 =>
  bnd (ref06_poker_l0 K K b0 often_1 0 w_2) fun y_11 w_12 =>
  bnd (ref06_poker_l1 K K often_1 0 0 w_12) fun y_15 w_16 =>
  some ((y_15.1, ()), w_16)
theorem ref06_poker_l0_ok (K : Nat) (n : Nat) : StmtNOk prog [(0, .sl), (3, .addr), (4, .int .i64)] [] [(4, 5), (7, 31)] ((fun n x w => ref06_poker_l0 K n x.1 x.2.1 x.2.2.1 w) n) (.block 0 (.loop (cd (bodyOf f25) [1, 1, 0, 1, 0, 0]))) :=
    mk_loopN (O := tabL []) (root := (bodyOf f25)) (π := [1, 1, 0, 1, 0, 0]) (id := 0) (Li := [(0, .sl), (3, .addr), (4, .int .i64)]) (Lo := []) (S := (fun n x w => ref06_poker_l0 K n x.1 x.2.1 x.2.2.1 w)) (body := cd (bodyOf f25) [1, 1, 0, 1, 0, 0]) (ref06_poker_Eok K) (ref06_poker_Rok K) rfl (Orc.nil _ _ _) (by kernel_rfl) (fun _ _ => by kernel_rfl) (fun _ _ _ => by kernel_rfl) n
noncomputable def ref06_poker_l0_se (K : Nat) : SE := stmtN [(0, .sl), (3, .addr), (4, .int .i64)] [] [(4, 5), (7, 31)] (fun x w => ref06_poker_l0 K K x.1 x.2.1 x.2.2.1 w)
theorem ref06_poker_l0_se_ok (K : Nat) (R : Rg) (h : subRB [(4, 5), (7, 31)] R = true) : (ref06_poker_l0_se K).Ok prog R (.block 0 (.loop (cd (bodyOf f25) [1, 1, 0, 1, 0, 0]))) := stmtN_ok (Li := [(0, .sl), (3, .addr), (4, .int .i64)]) (Lo := []) (S := (fun x w => ref06_poker_l0 K K x.1 x.2.1 x.2.2.1 w)) (ref06_poker_l0_ok K K) (subR_of h)
theorem ref06_poker_l1_ok (K : Nat) (n : Nat) : StmtNOk prog [(3, .addr), (5, .int .i64), (6, .int .i64)] [(5, .int .i64)] [(5, 7), (31, 44)] ((fun n x w => ref06_poker_l1 K n x.1 x.2.1 x.2.2.1 w) n) (.block 2 (.loop (cd (bodyOf f25) [1, 1, 1, 1, 0, 1, 0, 0]))) :=
    mk_loopN (O := tabL []) (root := (bodyOf f25)) (π := [1, 1, 1, 1, 0, 1, 0, 0]) (id := 2) (Li := [(3, .addr), (5, .int .i64), (6, .int .i64)]) (Lo := [(5, .int .i64)]) (S := (fun n x w => ref06_poker_l1 K n x.1 x.2.1 x.2.2.1 w)) (body := cd (bodyOf f25) [1, 1, 1, 1, 0, 1, 0, 0]) (ref06_poker_Eok K) (ref06_poker_Rok K) rfl (Orc.nil _ _ _) (by kernel_rfl) (fun _ _ => by kernel_rfl) (fun _ _ _ => by kernel_rfl) n
noncomputable def ref06_poker_l1_se (K : Nat) : SE := stmtN [(3, .addr), (5, .int .i64), (6, .int .i64)] [(5, .int .i64)] [(5, 7), (31, 44)] (fun x w => ref06_poker_l1 K K x.1 x.2.1 x.2.2.1 w)
theorem ref06_poker_l1_se_ok (K : Nat) (R : Rg) (h : subRB [(5, 7), (31, 44)] R = true) : (ref06_poker_l1_se K).Ok prog R (.block 2 (.loop (cd (bodyOf f25) [1, 1, 1, 1, 0, 1, 0, 0]))) := stmtN_ok (Li := [(3, .addr), (5, .int .i64), (6, .int .i64)]) (Lo := [(5, .int .i64)]) (S := (fun x w => ref06_poker_l1 K K x.1 x.2.1 x.2.2.1 w)) (ref06_poker_l1_ok K K) (subR_of h)
theorem ref06_poker_facts : FunFacts prog 25 f25 (bodyOf f25) [(0, .sl)] [(0, 45)] := ⟨func25, by kernel_rfl, by kernel_rfl, by kernel_rfl, by kernel_rfl, by kernel_rfl⟩
theorem ref06_poker_calls (K : Nat) (x : TT [(0, .sl)]) (w : World) (y : TR [.int .i64]) (w2 : World) (h : ref06_poker K x.1 w = some (y, w2)) : Calls prog 25 (encA [(0, .sl)] x).toArray w (fun e w3 => e = .returned (resV (encR [.int .i64] y)) ∧ w3 = w2) :=
    mk_fun (O := tabL [([1, 1, 0, 1], ref06_poker_l0_se K), ([1, 1, 1, 1, 0, 1], ref06_poker_l1_se K)]) (Lp := [(0, .sl)]) (Rt := [.int .i64]) (S := (fun x w => ref06_poker K x.1 w)) (ref06_poker_Eok K) (ref06_poker_Rok K) rfl ref06_poker_facts (Orc.cons (by kernel_rfl) (ref06_poker_l0_se_ok K [(0, 45)] (by kernel_rfl)) (Orc.cons (by kernel_rfl) (ref06_poker_l1_se_ok K [(0, 45)] (by kernel_rfl)) (Orc.nil _ _ _))) (fun _ _ => by kernel_rfl) x w y w2 h
noncomputable def ref06_poker_ce (K : Nat) : CE := funE [(0, .sl)] [.int .i64] (fun x w => ref06_poker K x.1 w)
theorem ref06_poker_ok (K : Nat) : (ref06_poker_ce K).Ok prog 25 := funE_ok (Rt := [.int .i64]) (S := (fun x w => ref06_poker K x.1 w)) ref06_poker_facts fun x w y w2 h => ref06_poker_calls K x w y w2 h

noncomputable def ref06_step_E : List (Nat × CE) := []
theorem ref06_step_Eok : Env.Ok prog (tab (ref06_step_E)) := (Env.nil _)
noncomputable def ref06_step_R : List (Nat × RE) := []
theorem ref06_step_Rok : REnv.Ok prog (tab (ref06_step_R)) := (REnv.nil _)
/-- coffer/cofferref06.step -/
noncomputable def ref06_step (w0 : Array Value) (p1 : Int) (w : World) : Option (((Array Value) × Unit) × World) :=
  bnd (newB w0 30 w) fun p_1 w_2 =>
  bnd (newB z30 30 w_2) fun p_3 w_4 =>
  if (p1 == 0) = true then ((ldI .i64 (p_1.add 0) w_4).bind fun v_5 =>
  (stC (p_1.add 0) (.int .i64 (IntKind.i64.wrap (v_5 + 1))) w_4).bind fun w_6 =>
  (ldA 2 p_1 w_6).bind fun v_7 =>
  if (v_7).size = 2 then ((stA p_3 v_7 w_6).bind fun w_8 =>
  (ldA 2 p_3 w_8).bind fun res_9 =>
  some ((res_9, ()), w_8)) else none) else (if (p1 == 1) = true then ((ldI .i64 (p_1.add 1) w_4).bind fun v_10 =>
  (stC (p_1.add 1) (.int .i64 (IntKind.i64.wrap (v_10 + 1))) w_4).bind fun w_11 =>
  (ldA 2 p_1 w_11).bind fun v_12 =>
  if (v_12).size = 2 then ((stA p_3 v_12 w_11).bind fun w_13 =>
  (ldA 2 p_3 w_13).bind fun res_14 =>
  some ((res_14, ()), w_13)) else none) else (if (p1 == 2) = true then ((ldI .i64 (p_1.add 0) w_4).bind fun v_15 =>
  (stC (p_1.add 0) (.int .i64 (IntKind.i64.wrap (v_15 - 1))) w_4).bind fun w_16 =>
  (ldA 2 p_1 w_16).bind fun v_17 =>
  if (v_17).size = 2 then ((stA p_3 v_17 w_16).bind fun w_18 =>
  (ldA 2 p_3 w_18).bind fun res_19 =>
  some ((res_19, ()), w_18)) else none) else (if (p1 == 3) = true then ((ldI .i64 (p_1.add 1) w_4).bind fun v_20 =>
  (stC (p_1.add 1) (.int .i64 (IntKind.i64.wrap (v_20 - 1))) w_4).bind fun w_21 =>
  (ldA 2 p_1 w_21).bind fun v_22 =>
  if (v_22).size = 2 then ((stA p_3 v_22 w_21).bind fun w_23 =>
  (ldA 2 p_3 w_23).bind fun res_24 =>
  some ((res_24, ()), w_23)) else none) else ((ldA 2 p_1 w_4).bind fun v_25 =>
  if (v_25).size = 2 then ((stA p_3 v_25 w_4).bind fun w_26 =>
  (ldA 2 p_3 w_26).bind fun res_27 =>
  some ((res_27, ()), w_26)) else none))))
theorem ref06_step_facts : FunFacts prog 26 f26 (bodyOf f26) [(0, .agg), (1, .int .i64)] [(0, 31)] := ⟨func26, by kernel_rfl, by kernel_rfl, by kernel_rfl, by kernel_rfl, by kernel_rfl⟩
theorem ref06_step_calls (x : TT [(0, .agg), (1, .int .i64)]) (w : World) (y : TR [.agg]) (w2 : World) (h : ref06_step x.1 x.2.1 w = some (y, w2)) : Calls prog 26 (encA [(0, .agg), (1, .int .i64)] x).toArray w (fun e w3 => e = .returned (resV (encR [.agg] y)) ∧ w3 = w2) :=
    mk_fun (O := tabL []) (Lp := [(0, .agg), (1, .int .i64)]) (Rt := [.agg]) (S := (fun x w => ref06_step x.1 x.2.1 w)) (ref06_step_Eok) (ref06_step_Rok) rfl ref06_step_facts (Orc.nil _ _ _) (fun _ _ => by kernel_rfl) x w y w2 h
noncomputable def ref06_step_ce : CE := funE [(0, .agg), (1, .int .i64)] [.agg] (fun x w => ref06_step x.1 x.2.1 w)
theorem ref06_step_ok : (ref06_step_ce).Ok prog 26 := funE_ok (Rt := [.agg]) (S := (fun x w => ref06_step x.1 x.2.1 w)) ref06_step_facts fun x w y w2 h => ref06_step_calls x w y w2 h

noncomputable def ref06_bit_R : List (Nat × RE) := []
theorem ref06_bit_Rok : REnv.Ok prog (tab (ref06_bit_R)) := (REnv.nil _)
/-- coffer/cofferref06.bit -/
noncomputable def ref06_bit (b0 : Sl) (i1 : Int) (w : World) : Option (Int × Unit) :=
  (b0.a).bind fun p_1 =>
  if (0 : Int) ≤ (IntKind.i64.wrap (Int.tdiv i1 8)) ∧ (IntKind.i64.wrap (Int.tdiv i1 8)) < ((b0.len : Nat) : Int) then ((ldI .u8 (p_1.add ((Int.toNat (IntKind.i64.wrap (Int.tdiv i1 8))) * 1)) w).bind fun v_2 =>
  if (0 : Int) ≤ (IntKind.u64.wrap (IntKind.i64.wrap (7 - (Int.tmod i1 8)))) then (some ((Int.tmod (Int.fdiv (IntKind.i64.wrap v_2) (2 ^ (min (Int.toNat (IntKind.u64.wrap (IntKind.i64.wrap (7 - (Int.tmod i1 8))))) IntKind.i64.bits))) 2), ())) else none) else none
theorem ref06_bit_facts : FunFacts prog 27 f27 (bodyOf f27) [(0, .sl), (1, .int .i64)] [(0, 17)] := ⟨func27, by kernel_rfl, by kernel_rfl, by kernel_rfl, by kernel_rfl, by kernel_rfl⟩
theorem ref06_bit_calls (x : TT [(0, .sl), (1, .int .i64)]) (w : World) (y : TR [.int .i64]) (h : ref06_bit x.1 x.2.1 w = some y) : Calls prog 27 (encA [(0, .sl), (1, .int .i64)] x).toArray w (fun e w3 => e = .returned (resV (encR [.int .i64] y)) ∧ w3 = w) :=
    mk_funQ (O := tabL []) (Lp := [(0, .sl), (1, .int .i64)]) (Rt := [.int .i64]) (S := (fun x w => ref06_bit x.1 x.2.1 w)) (ref06_bit_Rok) ref06_bit_facts (OrcQ.nil _ _ _) (fun _ _ => by kernel_rfl) x w y h
noncomputable def ref06_bit_re : RE := funR [(0, .sl), (1, .int .i64)] [.int .i64] (fun x w => ref06_bit x.1 x.2.1 w)
theorem ref06_bit_ok : (ref06_bit_re).Ok prog 27 := funR_ok (Rt := [.int .i64]) (S := (fun x w => ref06_bit x.1 x.2.1 w)) ref06_bit_facts fun x w y h => ref06_bit_calls x w y h

noncomputable def ref06_Test_E (K : Nat) : List (Nat × CE) := [(24, ref06_most_ce K), (25, ref06_poker_ce K), (26, ref06_step_ce)]
theorem ref06_Test_Eok (K : Nat) : Env.Ok prog (tab (ref06_Test_E K)) := (Env.cons (ref06_most_ok K) (Env.cons (ref06_poker_ok K) (Env.cons (ref06_step_ok) (Env.nil _))))
noncomputable def ref06_Test_R (K : Nat) : List (Nat × RE) := [(27, ref06_bit_re)]
theorem ref06_Test_Rok (K : Nat) : REnv.Ok prog (tab (ref06_Test_R K)) := (REnv.cons (ref06_bit_ok) (REnv.nil _))
noncomputable def ref06_Test_s1 (K : Nat) (b0 : Sl) (i6 : Int) (w : World) : Option ((Bool × Unit) × World) :=
  if (decide (i6 > 0)) = true then ((b0.a).bind fun p_14 =>
  if (0 : Int) ≤ i6 ∧ i6 < ((b0.len : Nat) : Int) then ((b0.a).bind fun p_15 =>
  if (0 : Int) ≤ (IntKind.i64.wrap (i6 - 1)) ∧ (IntKind.i64.wrap (i6 - 1)) < ((b0.len : Nat) : Int) then ((ldI .u8 (p_14.add ((Int.toNat i6) * 1)) w.drew).bind fun v_16 =>
  (ldI .u8 (p_15.add ((Int.toNat (IntKind.i64.wrap (i6 - 1))) * 1)) w.drew).bind fun v_17 =>
  some (((v_16 == v_17), ()), w.drew)) else none) else none) else (some ((false, ()), w.drew))
noncomputable def ref06_Test_s2 (K : Nat) (run5 : Int) (a40 : Bool) (w : World) : Option ((Int × Unit) × World) :=
  if a40 = true then (some (((IntKind.i64.wrap (run5 + 1)), ()), w)) else (some ((1, ()), w))
noncomputable def ref06_Test_l3_b (K : Nat) (rec : Sl → Addr → Addr → Int → Int → Int → World → Option ((Unit) × World)) (b0 : Sl) (a2 : Addr) (h4 : Addr) (run5 : Int) (i6 : Int) (k7 : Int) (w : World) : Option ((Unit) × World) :=
  if (decide (k7 < 4)) = true then (if (0 : Int) ≤ k7 ∧ k7 < ((4 : Nat) : Int) then ((b0.a).bind fun p_24 =>
  if (0 : Int) ≤ i6 ∧ i6 < ((b0.len : Nat) : Int) then ((ldA 2 ((h4.add 4).add ((Int.toNat k7) * 2)) w.drew).bind fun v_25 =>
  (ldI .u8 (p_24.add ((Int.toNat i6) * 1)) w.drew).bind fun v_26 =>
  if (0 : Int) ≤ (IntKind.u64.wrap (IntKind.i64.wrap (6 - (IntKind.i64.wrap (2 * k7))))) then (bnd (ref06_step v_25 (Int.tmod (Int.fdiv (IntKind.i64.wrap v_26) (2 ^ (min (Int.toNat (IntKind.u64.wrap (IntKind.i64.wrap (6 - (IntKind.i64.wrap (2 * k7)))))) IntKind.i64.bits))) 4) w.drew) fun r_27 w_28 =>
  if (0 : Int) ≤ k7 ∧ k7 < ((4 : Nat) : Int) then (if (r_27.1).size = 2 then ((stA ((h4.add 4).add ((Int.toNat k7) * 2)) r_27.1 w_28).bind fun w_29 =>
  rec b0 a2 h4 run5 i6 (IntKind.i64.wrap (k7 + 1)) w_29) else none) else none) else none) else none) else none) else (some ((), w))
noncomputable def ref06_Test_l3 (K : Nat) (n : Nat) : Sl → Addr → Addr → Int → Int → Int → World → Option ((Unit) × World) := iter (fun _ _ _ _ _ _ _ => none) (ref06_Test_l3_b K) n
noncomputable def ref06_Test_l0_b (K : Nat) (rec : Sl → Addr → Addr → Int → Int → World → Option ((Unit) × World)) (b0 : Sl) (a2 : Addr) (h4 : Addr) (run5 : Int) (i6 : Int) (w : World) : Option ((Unit) × World) :=
  if (decide (i6 < ((b0.len : Nat) : Int))) = true then (bnd (ref06_Test_s1 K b0 i6 w) fun y_18 w_19 =>
  bnd (ref06_Test_s2 K run5 y_18.1 w_19) fun y_20 w_21 =>
  (ldI .i64 (h4.add 1) w_21).bind fun v_22 =>
  (stC (h4.add 1) (.int .i64 (if y_20.1 > v_22 then y_20.1 else v_22)) w_21).bind fun w_23 =>
  bnd (ref06_Test_l3 K K b0 a2 h4 y_20.1 i6 0 w_23) fun y_30 w_31 =>
  (ldA 2 ((h4.add 4).add (0 * 2)) w_31).bind fun v_32 =>
  bnd (newB z30 30 w_31) fun w_33 w_34 =>
  if (v_32).size = 2 then ((stA w_33 v_32 w_34).bind fun w_35 =>
  (ldI .i64 (h4.add 12) w_35).bind fun v_36 =>
  (ldI .i64 (w_33.add 0) w_35).bind fun v_37 =>
  (ldI .i64 (w_33.add 0) w_35).bind fun v_38 =>
  (ldI .i64 (w_33.add 1) w_35).bind fun v_39 =>
  (ldI .i64 (w_33.add 1) w_35).bind fun v_40 =>
  (stC (h4.add 12) (.int .i64 (if (IntKind.i64.wrap ((IntKind.i64.wrap (v_37 * v_38)) + (IntKind.i64.wrap (v_39 * v_40)))) > v_36 then (IntKind.i64.wrap ((IntKind.i64.wrap (v_37 * v_38)) + (IntKind.i64.wrap (v_39 * v_40)))) else v_36)) w_35).bind fun w_41 =>
  rec b0 a2 h4 y_20.1 (IntKind.i64.wrap (i6 + 1)) w_41) else none) else (some ((), w))
noncomputable def ref06_Test_l0 (K : Nat) (n : Nat) : Sl → Addr → Addr → Int → Int → World → Option ((Unit) × World) := iter (fun _ _ _ _ _ _ => none) (ref06_Test_l0_b K) n
noncomputable def ref06_Test_s5 (K : Nat) (b0 : Sl) (i9 : Int) (w : World) : Option ((Bool × Unit) × World) :=
  if (decide (i9 > 0)) = true then ((ref06_bit b0 i9 w).bind fun r_47 =>
  (ref06_bit b0 (IntKind.i64.wrap (i9 - 1)) w).bind fun r_48 =>
  some (((r_47.1 != r_48.1), ()), w)) else (some ((false, ()), w))
noncomputable def ref06_Test_l4_b (K : Nat) (rec : Sl → Addr → Addr → Int → World → Option ((Unit) × World)) (b0 : Sl) (a2 : Addr) (h4 : Addr) (i9 : Int) (w : World) : Option ((Unit) × World) :=
  if (decide (i9 < (IntKind.i64.wrap (8 * ((b0.len : Nat) : Int))))) = true then ((ldI .i64 (h4.add 3) w.drew).bind fun v_44 =>
  (ref06_bit b0 i9 w.drew).bind fun r_45 =>
  (stC (h4.add 3) (.int .i64 (IntKind.i64.wrap (v_44 + r_45.1))) w.drew).bind fun w_46 =>
  bnd (ref06_Test_s5 K b0 i9 w_46) fun y_49 w_50 =>
  if y_49.1 = true then ((ldI .i64 (h4.add 14) w_50).bind fun v_51 =>
  (stC (h4.add 14) (.int .i64 (IntKind.i64.wrap (v_51 + 1))) w_50).bind fun w_52 =>
  rec b0 a2 h4 (IntKind.i64.wrap (i9 + 1)) w_52) else (rec b0 a2 h4 (IntKind.i64.wrap (i9 + 1)) w_50)) else (some ((), w))
noncomputable def ref06_Test_l4 (K : Nat) (n : Nat) : Sl → Addr → Addr → Int → World → Option ((Unit) × World) := iter (fun _ _ _ _ _ => none) (ref06_Test_l4_b K) n
/-- coffer/cofferref06.Test -/
noncomputable def ref06_Test (K : Nat) (b0 : Sl) (w : World) : Option (((Array Value) × Int × Unit) × World) :=
  bnd (newB z33 33 w) fun p_1 w_2 =>
  if (decide (((b0.len : Nat) : Int) > 1048576)) = true then ((prog.built 33 []).bind fun cs_3 =>
  if (cs_3).size = 15 then ((stA p_1 cs_3 w_2).bind fun w_4 =>
  (ldA 15 p_1 w_4).bind fun res_5 =>
  some ((res_5, 4, ()), w_4)) else none) else (bnd (ref06_most K b0 w_2) fun r_6 w_7 =>
  bnd (ref06_poker K b0 w_7) fun r_8 w_9 =>
  (prog.built 33 [(0, (.int .i64 ((b0.len : Nat) : Int))), (2, (.int .i64 r_6.1)), (6, (.int .i64 r_8.1))]).bind fun cs_10 =>
  bnd (newB z33 33 w_9) fun h_11 w_12 =>
  if (cs_10).size = 15 then ((stA h_11 cs_10 w_12).bind fun w_13 =>
  bnd (ref06_Test_l0 K K b0 p_1 h_11 0 0 w_13) fun y_42 w_43 =>
  bnd (ref06_Test_l4 K K b0 p_1 h_11 0 w_43) fun y_53 w_54 =>
  (ldA 15 h_11 w_54).bind fun v_55 =>
  if (v_55).size = 15 then ((stA p_1 v_55 w_54).bind fun w_56 =>
  (ldA 15 p_1 w_56).bind fun res_57 =>
  some ((res_57, 0, ()), w_56)) else none) else none)
theorem ref06_Test_s1_ok (K : Nat) : StmtNOk prog [(0, .sl), (6, .int .i64)] [(40, .bool)] [(27, 41)] (fun x w => ref06_Test_s1 K x.1 x.2.1 w) (cd (bodyOf f15) [1, 1, 1, 1, 0, 1, 0, 0, 1, 0, 0, 0, 0]) :=
    mk_stmtN (O := tabL []) (root := (bodyOf f15)) (π := [1, 1, 1, 1, 0, 1, 0, 0, 1, 0, 0, 0, 0]) (Li := [(0, .sl), (6, .int .i64)]) (Lo := [(40, .bool)]) (S := (fun x w => ref06_Test_s1 K x.1 x.2.1 w)) (ref06_Test_Eok K) (ref06_Test_Rok K) rfl (Orc.nil _ _ _) (by kernel_rfl) (fun _ _ => by kernel_rfl)
noncomputable def ref06_Test_s1_se (K : Nat) : SE := stmtN [(0, .sl), (6, .int .i64)] [(40, .bool)] [(27, 41)] (fun x w => ref06_Test_s1 K x.1 x.2.1 w)
theorem ref06_Test_s1_se_ok (K : Nat) (R : Rg) (h : subRB [(27, 41)] R = true) : (ref06_Test_s1_se K).Ok prog R (cd (bodyOf f15) [1, 1, 1, 1, 0, 1, 0, 0, 1, 0, 0, 0, 0]) := stmtN_ok (Li := [(0, .sl), (6, .int .i64)]) (Lo := [(40, .bool)]) (S := (fun x w => ref06_Test_s1 K x.1 x.2.1 w)) (ref06_Test_s1_ok K) (subR_of h)
theorem ref06_Test_s2_ok (K : Nat) : StmtNOk prog [(5, .int .i64), (40, .bool)] [(5, .int .i64)] [(5, 6), (41, 43)] (fun x w => ref06_Test_s2 K x.1 x.2.1 w) (cd (bodyOf f15) [1, 1, 1, 1, 0, 1, 0, 0, 1, 0, 0, 0, 1]) :=
    mk_stmtN (O := tabL []) (root := (bodyOf f15)) (π := [1, 1, 1, 1, 0, 1, 0, 0, 1, 0, 0, 0, 1]) (Li := [(5, .int .i64), (40, .bool)]) (Lo := [(5, .int .i64)]) (S := (fun x w => ref06_Test_s2 K x.1 x.2.1 w)) (ref06_Test_Eok K) (ref06_Test_Rok K) rfl (Orc.nil _ _ _) (by kernel_rfl) (fun _ _ => by kernel_rfl)
noncomputable def ref06_Test_s2_se (K : Nat) : SE := stmtN [(5, .int .i64), (40, .bool)] [(5, .int .i64)] [(5, 6), (41, 43)] (fun x w => ref06_Test_s2 K x.1 x.2.1 w)
theorem ref06_Test_s2_se_ok (K : Nat) (R : Rg) (h : subRB [(5, 6), (41, 43)] R = true) : (ref06_Test_s2_se K).Ok prog R (cd (bodyOf f15) [1, 1, 1, 1, 0, 1, 0, 0, 1, 0, 0, 0, 1]) := stmtN_ok (Li := [(5, .int .i64), (40, .bool)]) (Lo := [(5, .int .i64)]) (S := (fun x w => ref06_Test_s2 K x.1 x.2.1 w)) (ref06_Test_s2_ok K) (subR_of h)
theorem ref06_Test_l3_ok (K : Nat) (n : Nat) : StmtNOk prog [(0, .sl), (2, .addr), (4, .addr), (5, .int .i64), (6, .int .i64), (7, .int .i64)] [] [(7, 8), (48, 71)] ((fun n x w => ref06_Test_l3 K n x.1 x.2.1 x.2.2.1 x.2.2.2.1 x.2.2.2.2.1 x.2.2.2.2.2.1 w) n) (.block 2 (.loop (cd (bodyOf f15) [1, 1, 1, 1, 0, 1, 0, 0, 1, 0, 0, 1, 1, 0, 1, 0, 0]))) :=
    mk_loopN (O := tabL []) (root := (bodyOf f15)) (π := [1, 1, 1, 1, 0, 1, 0, 0, 1, 0, 0, 1, 1, 0, 1, 0, 0]) (id := 2) (Li := [(0, .sl), (2, .addr), (4, .addr), (5, .int .i64), (6, .int .i64), (7, .int .i64)]) (Lo := []) (S := (fun n x w => ref06_Test_l3 K n x.1 x.2.1 x.2.2.1 x.2.2.2.1 x.2.2.2.2.1 x.2.2.2.2.2.1 w)) (body := cd (bodyOf f15) [1, 1, 1, 1, 0, 1, 0, 0, 1, 0, 0, 1, 1, 0, 1, 0, 0]) (ref06_Test_Eok K) (ref06_Test_Rok K) rfl (Orc.nil _ _ _) (by kernel_rfl) (fun _ _ => by kernel_rfl) (fun _ _ _ => by kernel_rfl) n
noncomputable def ref06_Test_l3_se (K : Nat) : SE := stmtN [(0, .sl), (2, .addr), (4, .addr), (5, .int .i64), (6, .int .i64), (7, .int .i64)] [] [(7, 8), (48, 71)] (fun x w => ref06_Test_l3 K K x.1 x.2.1 x.2.2.1 x.2.2.2.1 x.2.2.2.2.1 x.2.2.2.2.2.1 w)
theorem ref06_Test_l3_se_ok (K : Nat) (R : Rg) (h : subRB [(7, 8), (48, 71)] R = true) : (ref06_Test_l3_se K).Ok prog R (.block 2 (.loop (cd (bodyOf f15) [1, 1, 1, 1, 0, 1, 0, 0, 1, 0, 0, 1, 1, 0, 1, 0, 0]))) := stmtN_ok (Li := [(0, .sl), (2, .addr), (4, .addr), (5, .int .i64), (6, .int .i64), (7, .int .i64)]) (Lo := []) (S := (fun x w => ref06_Test_l3 K K x.1 x.2.1 x.2.2.1 x.2.2.2.1 x.2.2.2.2.1 x.2.2.2.2.2.1 w)) (ref06_Test_l3_ok K K) (subR_of h)
theorem ref06_Test_l0_ok (K : Nat) (n : Nat) : StmtNOk prog [(0, .sl), (2, .addr), (4, .addr), (5, .int .i64), (6, .int .i64)] [] [(5, 9), (21, 89)] ((fun n x w => ref06_Test_l0 K n x.1 x.2.1 x.2.2.1 x.2.2.2.1 x.2.2.2.2.1 w) n) (.block 0 (.loop (cd (bodyOf f15) [1, 1, 1, 1, 0, 1, 0, 0]))) :=
    mk_loopN (O := tabL [([1, 1, 1, 1, 0, 1, 0, 0, 1, 0, 0, 0, 0], ref06_Test_s1_se K), ([1, 1, 1, 1, 0, 1, 0, 0, 1, 0, 0, 0, 1], ref06_Test_s2_se K), ([1, 1, 1, 1, 0, 1, 0, 0, 1, 0, 0, 1, 1, 0, 1], ref06_Test_l3_se K)]) (root := (bodyOf f15)) (π := [1, 1, 1, 1, 0, 1, 0, 0]) (id := 0) (Li := [(0, .sl), (2, .addr), (4, .addr), (5, .int .i64), (6, .int .i64)]) (Lo := []) (S := (fun n x w => ref06_Test_l0 K n x.1 x.2.1 x.2.2.1 x.2.2.2.1 x.2.2.2.2.1 w)) (body := cd (bodyOf f15) [1, 1, 1, 1, 0, 1, 0, 0]) (ref06_Test_Eok K) (ref06_Test_Rok K) rfl (Orc.cons (by kernel_rfl) (ref06_Test_s1_se_ok K [(5, 9), (21, 89)] (by kernel_rfl)) (Orc.cons (by kernel_rfl) (ref06_Test_s2_se_ok K [(5, 9), (21, 89)] (by kernel_rfl)) (Orc.cons (by kernel_rfl) (ref06_Test_l3_se_ok K [(5, 9), (21, 89)] (by kernel_rfl)) (Orc.nil _ _ _)))) (by kernel_rfl) (fun _ _ => by kernel_rfl) (fun _ _ _ => by kernel_rfl) n
noncomputable def ref06_Test_l0_se (K : Nat) : SE := stmtN [(0, .sl), (2, .addr), (4, .addr), (5, .int .i64), (6, .int .i64)] [] [(5, 9), (21, 89)] (fun x w => ref06_Test_l0 K K x.1 x.2.1 x.2.2.1 x.2.2.2.1 x.2.2.2.2.1 w)
theorem ref06_Test_l0_se_ok (K : Nat) (R : Rg) (h : subRB [(5, 9), (21, 89)] R = true) : (ref06_Test_l0_se K).Ok prog R (.block 0 (.loop (cd (bodyOf f15) [1, 1, 1, 1, 0, 1, 0, 0]))) := stmtN_ok (Li := [(0, .sl), (2, .addr), (4, .addr), (5, .int .i64), (6, .int .i64)]) (Lo := []) (S := (fun x w => ref06_Test_l0 K K x.1 x.2.1 x.2.2.1 x.2.2.2.1 x.2.2.2.2.1 w)) (ref06_Test_l0_ok K K) (subR_of h)
theorem ref06_Test_s5_ok (K : Nat) : StmtNOk prog [(0, .sl), (9, .int .i64)] [(114, .bool)] [(103, 115)] (fun x w => ref06_Test_s5 K x.1 x.2.1 w) (cd (bodyOf f15) [1, 1, 1, 1, 1, 0, 1, 0, 0, 1, 0, 0, 1, 0]) :=
    mk_stmtN (O := tabL []) (root := (bodyOf f15)) (π := [1, 1, 1, 1, 1, 0, 1, 0, 0, 1, 0, 0, 1, 0]) (Li := [(0, .sl), (9, .int .i64)]) (Lo := [(114, .bool)]) (S := (fun x w => ref06_Test_s5 K x.1 x.2.1 w)) (ref06_Test_Eok K) (ref06_Test_Rok K) rfl (Orc.nil _ _ _) (by kernel_rfl) (fun _ _ => by kernel_rfl)
noncomputable def ref06_Test_s5_se (K : Nat) : SE := stmtN [(0, .sl), (9, .int .i64)] [(114, .bool)] [(103, 115)] (fun x w => ref06_Test_s5 K x.1 x.2.1 w)
theorem ref06_Test_s5_se_ok (K : Nat) (R : Rg) (h : subRB [(103, 115)] R = true) : (ref06_Test_s5_se K).Ok prog R (cd (bodyOf f15) [1, 1, 1, 1, 1, 0, 1, 0, 0, 1, 0, 0, 1, 0]) := stmtN_ok (Li := [(0, .sl), (9, .int .i64)]) (Lo := [(114, .bool)]) (S := (fun x w => ref06_Test_s5 K x.1 x.2.1 w)) (ref06_Test_s5_ok K) (subR_of h)
theorem ref06_Test_l4_ok (K : Nat) (n : Nat) : StmtNOk prog [(0, .sl), (2, .addr), (4, .addr), (9, .int .i64)] [] [(9, 10), (89, 119)] ((fun n x w => ref06_Test_l4 K n x.1 x.2.1 x.2.2.1 x.2.2.2.1 w) n) (.block 4 (.loop (cd (bodyOf f15) [1, 1, 1, 1, 1, 0, 1, 0, 0]))) :=
    mk_loopN (O := tabL [([1, 1, 1, 1, 1, 0, 1, 0, 0, 1, 0, 0, 1, 0], ref06_Test_s5_se K)]) (root := (bodyOf f15)) (π := [1, 1, 1, 1, 1, 0, 1, 0, 0]) (id := 4) (Li := [(0, .sl), (2, .addr), (4, .addr), (9, .int .i64)]) (Lo := []) (S := (fun n x w => ref06_Test_l4 K n x.1 x.2.1 x.2.2.1 x.2.2.2.1 w)) (body := cd (bodyOf f15) [1, 1, 1, 1, 1, 0, 1, 0, 0]) (ref06_Test_Eok K) (ref06_Test_Rok K) rfl (Orc.cons (by kernel_rfl) (ref06_Test_s5_se_ok K [(9, 10), (89, 119)] (by kernel_rfl)) (Orc.nil _ _ _)) (by kernel_rfl) (fun _ _ => by kernel_rfl) (fun _ _ _ => by kernel_rfl) n
noncomputable def ref06_Test_l4_se (K : Nat) : SE := stmtN [(0, .sl), (2, .addr), (4, .addr), (9, .int .i64)] [] [(9, 10), (89, 119)] (fun x w => ref06_Test_l4 K K x.1 x.2.1 x.2.2.1 x.2.2.2.1 w)
theorem ref06_Test_l4_se_ok (K : Nat) (R : Rg) (h : subRB [(9, 10), (89, 119)] R = true) : (ref06_Test_l4_se K).Ok prog R (.block 4 (.loop (cd (bodyOf f15) [1, 1, 1, 1, 1, 0, 1, 0, 0]))) := stmtN_ok (Li := [(0, .sl), (2, .addr), (4, .addr), (9, .int .i64)]) (Lo := []) (S := (fun x w => ref06_Test_l4 K K x.1 x.2.1 x.2.2.1 x.2.2.2.1 w)) (ref06_Test_l4_ok K K) (subR_of h)
theorem ref06_Test_facts : FunFacts prog 15 f15 (bodyOf f15) [(0, .sl)] [(0, 120)] := ⟨func15, by kernel_rfl, by kernel_rfl, by kernel_rfl, by kernel_rfl, by kernel_rfl⟩
theorem ref06_Test_calls (K : Nat) (x : TT [(0, .sl)]) (w : World) (y : TR [.agg, .int .i64]) (w2 : World) (h : ref06_Test K x.1 w = some (y, w2)) : Calls prog 15 (encA [(0, .sl)] x).toArray w (fun e w3 => e = .returned (resV (encR [.agg, .int .i64] y)) ∧ w3 = w2) :=
    mk_fun (O := tabL [([1, 1, 1, 1, 0, 1], ref06_Test_l0_se K), ([1, 1, 1, 1, 0, 1, 0, 0, 1, 0, 0, 0, 0], ref06_Test_s1_se K), ([1, 1, 1, 1, 0, 1, 0, 0, 1, 0, 0, 0, 1], ref06_Test_s2_se K), ([1, 1, 1, 1, 0, 1, 0, 0, 1, 0, 0, 1, 1, 0, 1], ref06_Test_l3_se K), ([1, 1, 1, 1, 1, 0, 1], ref06_Test_l4_se K), ([1, 1, 1, 1, 1, 0, 1, 0, 0, 1, 0, 0, 1, 0], ref06_Test_s5_se K)]) (Lp := [(0, .sl)]) (Rt := [.agg, .int .i64]) (S := (fun x w => ref06_Test K x.1 w)) (ref06_Test_Eok K) (ref06_Test_Rok K) rfl ref06_Test_facts (Orc.cons (by kernel_rfl) (ref06_Test_l0_se_ok K [(0, 120)] (by kernel_rfl)) (Orc.cons (by kernel_rfl) (ref06_Test_s1_se_ok K [(0, 120)] (by kernel_rfl)) (Orc.cons (by kernel_rfl) (ref06_Test_s2_se_ok K [(0, 120)] (by kernel_rfl)) (Orc.cons (by kernel_rfl) (ref06_Test_l3_se_ok K [(0, 120)] (by kernel_rfl)) (Orc.cons (by kernel_rfl) (ref06_Test_l4_se_ok K [(0, 120)] (by kernel_rfl)) (Orc.cons (by kernel_rfl) (ref06_Test_s5_se_ok K [(0, 120)] (by kernel_rfl)) (Orc.nil _ _ _))))))) (fun _ _ => by kernel_rfl) x w y w2 h
noncomputable def ref06_Test_ce (K : Nat) : CE := funE [(0, .sl)] [.agg, .int .i64] (fun x w => ref06_Test K x.1 w)
theorem ref06_Test_ok (K : Nat) : (ref06_Test_ce K).Ok prog 15 := funE_ok (Rt := [.agg, .int .i64]) (S := (fun x w => ref06_Test K x.1 w)) ref06_Test_facts fun x w y w2 h => ref06_Test_calls K x w y w2 h

noncomputable def book_SameBytes_E (K : Nat) : List (Nat × CE) := []
theorem book_SameBytes_Eok (K : Nat) : Env.Ok prog (tab (book_SameBytes_E K)) := (Env.nil _)
noncomputable def book_SameBytes_R (K : Nat) : List (Nat × RE) := []
theorem book_SameBytes_Rok (K : Nat) : REnv.Ok prog (tab (book_SameBytes_R K)) := (REnv.nil _)
noncomputable def book_SameBytes_l0_b (K : Nat) (rec : Sl → Sl → Int → World → Option ((Out (Unit) (Bool × Unit)) × World)) (a0 : Sl) (b1 : Sl) (i5 : Int) (w : World) : Option ((Out (Unit) (Bool × Unit)) × World) :=
  if (decide (i5 < ((a0.len : Nat) : Int))) = true then ((a0.a).bind fun p_1 =>
  if (0 : Int) ≤ i5 ∧ i5 < ((a0.len : Nat) : Int) then ((b1.a).bind fun p_2 =>
  if (0 : Int) ≤ i5 ∧ i5 < ((b1.len : Nat) : Int) then ((ldI .u8 (p_1.add ((Int.toNat i5) * 1)) w.drew).bind fun v_3 =>
  (ldI .u8 (p_2.add ((Int.toNat i5) * 1)) w.drew).bind fun v_4 =>
  if (v_3 != v_4) = true then (some (.ret (false, ()), w.drew)) else (rec a0 b1 (IntKind.i64.wrap (i5 + 1)) w.drew)) else none) else none) else (some (.norm (), w))
noncomputable def book_SameBytes_l0 (K : Nat) (n : Nat) : Sl → Sl → Int → World → Option ((Out (Unit) (Bool × Unit)) × World) := iter (fun _ _ _ _ => none) (book_SameBytes_l0_b K) n
/-- coffer/cofferbook.SameBytes -/
noncomputable def book_SameBytes (K : Nat) (a0 : Sl) (b1 : Sl) (w : World) : Option ((Bool × Unit) × World) :=
  if (((a0.len : Nat) : Int) != ((b1.len : Nat) : Int)) = true then (some ((false, ()), w)) else (bnd (book_SameBytes_l0 K K a0 b1 0 w) fun y_5 w_6 =>
  (match y_5 with
  | .norm z_7n => (some ((true, ()), w_6))
  | .ret z_7r => (some ((z_7r.1, ()), w_6))))
theorem book_SameBytes_l0_ok (K : Nat) (n : Nat) : StmtOk prog [(0, .sl), (1, .sl), (5, .int .i64)] [] [(4, .bool)] [(4, 6), (11, 26)] ((fun n x w => book_SameBytes_l0 K n x.1 x.2.1 x.2.2.1 w) n) (.block 0 (.loop (cd (bodyOf f28) [1, 1, 0, 1, 0, 0]))) :=
    mk_loop (O := tabL []) (root := (bodyOf f28)) (π := [1, 1, 0, 1, 0, 0]) (id := 0) (Li := [(0, .sl), (1, .sl), (5, .int .i64)]) (Lo := []) (Lr := [(4, .bool)]) (S := (fun n x w => book_SameBytes_l0 K n x.1 x.2.1 x.2.2.1 w)) (body := cd (bodyOf f28) [1, 1, 0, 1, 0, 0]) (book_SameBytes_Eok K) (book_SameBytes_Rok K) rfl (Orc.nil _ _ _) (by kernel_rfl) (fun _ _ => by kernel_rfl) (fun _ _ _ => by kernel_rfl) n
noncomputable def book_SameBytes_l0_se (K : Nat) : SE := stmt [(0, .sl), (1, .sl), (5, .int .i64)] [] [(4, .bool)] [(4, 6), (11, 26)] (fun x w => book_SameBytes_l0 K K x.1 x.2.1 x.2.2.1 w)
theorem book_SameBytes_l0_se_ok (K : Nat) (R : Rg) (h : subRB [(4, 6), (11, 26)] R = true) : (book_SameBytes_l0_se K).Ok prog R (.block 0 (.loop (cd (bodyOf f28) [1, 1, 0, 1, 0, 0]))) := stmt_ok (Li := [(0, .sl), (1, .sl), (5, .int .i64)]) (Lo := []) (Lr := [(4, .bool)]) (S := (fun x w => book_SameBytes_l0 K K x.1 x.2.1 x.2.2.1 w)) (book_SameBytes_l0_ok K K) (subR_of h)
theorem book_SameBytes_facts : FunFacts prog 28 f28 (bodyOf f28) [(0, .sl), (1, .sl)] [(0, 26)] := ⟨func28, by kernel_rfl, by kernel_rfl, by kernel_rfl, by kernel_rfl, by kernel_rfl⟩
theorem book_SameBytes_calls (K : Nat) (x : TT [(0, .sl), (1, .sl)]) (w : World) (y : TR [.bool]) (w2 : World) (h : book_SameBytes K x.1 x.2.1 w = some (y, w2)) : Calls prog 28 (encA [(0, .sl), (1, .sl)] x).toArray w (fun e w3 => e = .returned (resV (encR [.bool] y)) ∧ w3 = w2) :=
    mk_fun (O := tabL [([1, 1, 0, 1], book_SameBytes_l0_se K)]) (Lp := [(0, .sl), (1, .sl)]) (Rt := [.bool]) (S := (fun x w => book_SameBytes K x.1 x.2.1 w)) (book_SameBytes_Eok K) (book_SameBytes_Rok K) rfl book_SameBytes_facts (Orc.cons (by kernel_rfl) (book_SameBytes_l0_se_ok K [(0, 26)] (by kernel_rfl)) (Orc.nil _ _ _)) (fun _ _ => by kernel_rfl) x w y w2 h
noncomputable def book_SameBytes_ce (K : Nat) : CE := funE [(0, .sl), (1, .sl)] [.bool] (fun x w => book_SameBytes K x.1 x.2.1 w)
theorem book_SameBytes_ok (K : Nat) : (book_SameBytes_ce K).Ok prog 28 := funE_ok (Rt := [.bool]) (S := (fun x w => book_SameBytes K x.1 x.2.1 w)) book_SameBytes_facts fun x w y w2 h => book_SameBytes_calls K x w y w2 h

noncomputable def book_WholeBytes_E (K : Nat) : List (Nat × CE) := [(28, book_SameBytes_ce K)]
theorem book_WholeBytes_Eok (K : Nat) : Env.Ok prog (tab (book_WholeBytes_E K)) := (Env.cons (book_SameBytes_ok K) (Env.nil _))
noncomputable def book_WholeBytes_R (K : Nat) : List (Nat × RE) := []
theorem book_WholeBytes_Rok (K : Nat) : REnv.Ok prog (tab (book_WholeBytes_R K)) := (REnv.nil _)
noncomputable def book_WholeBytes_l0_b (K : Nat) (rec : Int → Sl → Int → World → Option ((Out (Unit) (Bool × Unit)) × World)) (n5 : Int) (all6 : Sl) (i7 : Int) (w : World) : Option ((Out (Unit) (Bool × Unit)) × World) :=
  if (decide (i7 < 70)) = true then ((all6.a).bind fun p_3 =>
  if (0 : Int) ≤ (IntKind.i64.wrap (n5 + i7)) ∧ (IntKind.i64.wrap (n5 + i7)) < ((all6.len : Nat) : Int) then ((ldI .u8 (p_3.add ((Int.toNat (IntKind.i64.wrap (n5 + i7))) * 1)) w).bind fun v_4 =>
  if (v_4 != (IntKind.u8.wrap (IntKind.i64.wrap (181 + i7)))) = true then (some (.ret (false, ()), w)) else (rec n5 all6 (IntKind.i64.wrap (i7 + 1)) w)) else none) else (some (.norm (), w))
noncomputable def book_WholeBytes_l0 (K : Nat) (n : Nat) : Int → Sl → Int → World → Option ((Out (Unit) (Bool × Unit)) × World) := iter (fun _ _ _ _ => none) (book_WholeBytes_l0_b K) n
/-- coffer/cofferbook.WholeBytes -/
noncomputable def book_WholeBytes (K : Nat) (c0 : Sl) (l1 : Sl) (w : World) : Option ((Bool × Unit) × World) :=
  bnd (book_SameBytes K c0 l1 w) fun r_1 w_2 =>
  if (!r_1.1) = true then (some ((false, ()), w_2)) else (if (0 : Int) ≤ (IntKind.i64.wrap (((c0.len : Nat) : Int) + 70)) ∧ (IntKind.i64.wrap (((c0.len : Nat) : Int) + 70)) ≤ ((c0.cap : Nat) : Int) then (bnd (book_WholeBytes_l0 K K ((c0.len : Nat) : Int) ⟨(sla c0.a 0 c0.cap 1), ((Int.toNat ((IntKind.i64.wrap (((c0.len : Nat) : Int) + 70)))) - 0), (c0.cap - 0)⟩ 0 w_2) fun y_5 w_6 =>
  (match y_5 with
  | .norm z_7n => (some ((true, ()), w_6))
  | .ret z_7r => (some ((z_7r.1, ()), w_6)))) else none)
theorem book_WholeBytes_l0_ok (K : Nat) (n : Nat) : StmtOk prog [(5, .int .i64), (6, .sl), (7, .int .i64)] [] [(4, .bool)] [(4, 5), (7, 8), (18, 32)] ((fun n x w => book_WholeBytes_l0 K n x.1 x.2.1 x.2.2.1 w) n) (.block 0 (.loop (cd (bodyOf f16) [1, 1, 1, 1, 0, 1, 0, 0]))) :=
    mk_loop (O := tabL []) (root := (bodyOf f16)) (π := [1, 1, 1, 1, 0, 1, 0, 0]) (id := 0) (Li := [(5, .int .i64), (6, .sl), (7, .int .i64)]) (Lo := []) (Lr := [(4, .bool)]) (S := (fun n x w => book_WholeBytes_l0 K n x.1 x.2.1 x.2.2.1 w)) (body := cd (bodyOf f16) [1, 1, 1, 1, 0, 1, 0, 0]) (book_WholeBytes_Eok K) (book_WholeBytes_Rok K) rfl (Orc.nil _ _ _) (by kernel_rfl) (fun _ _ => by kernel_rfl) (fun _ _ _ => by kernel_rfl) n
noncomputable def book_WholeBytes_l0_se (K : Nat) : SE := stmt [(5, .int .i64), (6, .sl), (7, .int .i64)] [] [(4, .bool)] [(4, 5), (7, 8), (18, 32)] (fun x w => book_WholeBytes_l0 K K x.1 x.2.1 x.2.2.1 w)
theorem book_WholeBytes_l0_se_ok (K : Nat) (R : Rg) (h : subRB [(4, 5), (7, 8), (18, 32)] R = true) : (book_WholeBytes_l0_se K).Ok prog R (.block 0 (.loop (cd (bodyOf f16) [1, 1, 1, 1, 0, 1, 0, 0]))) := stmt_ok (Li := [(5, .int .i64), (6, .sl), (7, .int .i64)]) (Lo := []) (Lr := [(4, .bool)]) (S := (fun x w => book_WholeBytes_l0 K K x.1 x.2.1 x.2.2.1 w)) (book_WholeBytes_l0_ok K K) (subR_of h)
theorem book_WholeBytes_facts : FunFacts prog 16 f16 (bodyOf f16) [(0, .sl), (1, .sl)] [(0, 32)] := ⟨func16, by kernel_rfl, by kernel_rfl, by kernel_rfl, by kernel_rfl, by kernel_rfl⟩
theorem book_WholeBytes_calls (K : Nat) (x : TT [(0, .sl), (1, .sl)]) (w : World) (y : TR [.bool]) (w2 : World) (h : book_WholeBytes K x.1 x.2.1 w = some (y, w2)) : Calls prog 16 (encA [(0, .sl), (1, .sl)] x).toArray w (fun e w3 => e = .returned (resV (encR [.bool] y)) ∧ w3 = w2) :=
    mk_fun (O := tabL [([1, 1, 1, 1, 0, 1], book_WholeBytes_l0_se K)]) (Lp := [(0, .sl), (1, .sl)]) (Rt := [.bool]) (S := (fun x w => book_WholeBytes K x.1 x.2.1 w)) (book_WholeBytes_Eok K) (book_WholeBytes_Rok K) rfl book_WholeBytes_facts (Orc.cons (by kernel_rfl) (book_WholeBytes_l0_se_ok K [(0, 32)] (by kernel_rfl)) (Orc.nil _ _ _)) (fun _ _ => by kernel_rfl) x w y w2 h
noncomputable def book_WholeBytes_ce (K : Nat) : CE := funE [(0, .sl), (1, .sl)] [.bool] (fun x w => book_WholeBytes K x.1 x.2.1 w)
theorem book_WholeBytes_ok (K : Nat) : (book_WholeBytes_ce K).Ok prog 16 := funE_ok (Rt := [.bool]) (S := (fun x w => book_WholeBytes K x.1 x.2.1 w)) book_WholeBytes_facts fun x w y w2 h => book_WholeBytes_calls K x w y w2 h

noncomputable def spring_step_R : List (Nat × RE) := []
theorem spring_step_Rok : REnv.Ok prog (tab (spring_step_R)) := (REnv.nil _)
/-- coffer/spring.step -/
noncomputable def spring_step (pair0 : Int) : Option (Value × Unit) :=
  if (pair0 == 0) = true then (some ((.complex .f64 4607182418800017408 0), ())) else (if (pair0 == 1) = true then (some ((.complex .f64 0 4607182418800017408), ())) else (if (pair0 == 2) = true then (some ((.complex .f64 13830554455654793216 0), ())) else (some ((.complex .f64 0 13830554455654793216), ()))))
theorem spring_step_facts : FunFacts prog 30 f30 (bodyOf f30) [(0, .int .u8)] [(0, 10)] := ⟨func30, by kernel_rfl, by kernel_rfl, by kernel_rfl, by kernel_rfl, by kernel_rfl⟩
theorem spring_step_calls (x : TT [(0, .int .u8)]) (w : World) (y : TR [.val]) (h : spring_step x.1 = some y) : Calls prog 30 (encA [(0, .int .u8)] x).toArray w (fun e w3 => e = .returned (resV (encR [.val] y)) ∧ w3 = w) :=
    mk_funQ (O := tabL []) (Lp := [(0, .int .u8)]) (Rt := [.val]) (S := (fun x w => spring_step x.1)) (spring_step_Rok) spring_step_facts (OrcQ.nil _ _ _) (fun _ _ => by kernel_rfl) x w y h
noncomputable def spring_step_re : RE := funR [(0, .int .u8)] [.val] (fun x w => spring_step x.1)
theorem spring_step_ok : (spring_step_re).Ok prog 30 := funR_ok (Rt := [.val]) (S := (fun x w => spring_step x.1)) spring_step_facts fun x w y h => spring_step_calls x w y h

end Go.Sh
