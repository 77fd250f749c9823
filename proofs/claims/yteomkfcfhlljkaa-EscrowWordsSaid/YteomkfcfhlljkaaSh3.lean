/- What functions of the program do, as Lean functions; that the machine does just that. Printed by shal.py, a program of this claim's writer. -/
import Derived.Test.YteomkfcfhlljkaaSh2
set_option maxRecDepth 100000
set_option linter.unusedVariables false
namespace Go.Sh
open Go.Fw Go.Proofs.Try

noncomputable def ref11_Coded_E (K : Nat) : List (Nat × CE) := [(28, ref11_Sums_ce K), (29, ref11_Powers_ce K), (37, ref11_Solve_ce K)]
theorem ref11_Coded_Eok (K : Nat) : Env.Ok prog (tab (ref11_Coded_E K)) := (Env.cons (ref11_Sums_ok K) (Env.cons (ref11_Powers_ok K) (Env.cons (ref11_Solve_ok K) (Env.nil _))))
noncomputable def ref11_Coded_R (K : Nat) : List (Nat × RE) := []
theorem ref11_Coded_Rok (K : Nat) : REnv.Ok prog (tab (ref11_Coded_R K)) := (REnv.nil _)
noncomputable def ref11_Coded_l0_b (K : Nat) (rec : Sl → Addr → Sl → Sl → Int → World → Option ((Sl × Unit) × World)) (b0 : Sl) (s4 : Addr) (p5 : Sl) (m6 : Sl) (j7 : Int) (w : World) : Option ((Sl × Unit) × World) :=
  if (decide (j7 < 4)) = true then ((p5.a).bind fun p_16 =>
  if (0 : Int) ≤ (IntKind.i64.wrap (3 * j7)) ∧ (IntKind.i64.wrap (3 * j7)) < ((p5.len : Nat) : Int) then ((p5.a).bind fun p_17 =>
  if (0 : Int) ≤ (IntKind.i64.wrap (2 * j7)) ∧ (IntKind.i64.wrap (2 * j7)) < ((p5.len : Nat) : Int) then ((p5.a).bind fun p_18 =>
  if (0 : Int) ≤ j7 ∧ j7 < ((p5.len : Nat) : Int) then (if (0 : Int) ≤ j7 ∧ j7 < ((4 : Nat) : Int) then ((ldI .u8 (p_16.add ((Int.toNat (IntKind.i64.wrap (3 * j7))) * 1)) w.drew).bind fun v_19 =>
  (ldI .u8 (p_17.add ((Int.toNat (IntKind.i64.wrap (2 * j7))) * 1)) w.drew).bind fun v_20 =>
  (ldI .u8 (p_18.add ((Int.toNat j7) * 1)) w.drew).bind fun v_21 =>
  (ldI .u8 (s4.add ((Int.toNat j7) * 1)) w.drew).bind fun v_22 =>
  bnd (bldS prog 25 5 #[(0, (.int .u8 v_19)), (1, (.int .u8 v_20)), (2, (.int .u8 v_21)), (3, (.int .u8 1)), (4, (.int .u8 v_22))] w.drew) fun s_23 w_24 =>
  bnd (bldS prog 68 1 #[(0, (.slice s_23.a s_23.len s_23.cap))] w_24) fun s_25 w_26 =>
  bnd (apd prog 68 68 (.slice m6.a m6.len m6.cap) (.slice s_25.a s_25.len s_25.cap) w_26) fun s_27 w_28 =>
  rec b0 s4 p5 s_27 (IntKind.i64.wrap (j7 + 1)) w_28) else none) else none) else none) else none) else (some ((m6, ()), w))
noncomputable def ref11_Coded_l0 (K : Nat) (n : Nat) : Sl → Addr → Sl → Sl → Int → World → Option ((Sl × Unit) × World) := iter (fun _ _ _ _ _ _ => none) (ref11_Coded_l0_b K) n
/-- coffer/cofferref11.Coded -/
noncomputable def ref11_Coded (K : Nat) (b0 : Sl) (w : World) : Option ((Sl × Unit) × World) :=
  bnd (bldS prog 25 0 #[] w) fun s_1 w_2 =>
  bnd (apd prog 25 25 (.slice s_1.a s_1.len s_1.cap) (.slice b0.a b0.len b0.cap) w_2) fun s_3 w_4 =>
  bnd (bldS prog 25 4 #[(0, (.int .u8 0)), (1, (.int .u8 0)), (2, (.int .u8 0)), (3, (.int .u8 0))] w_4) fun s_5 w_6 =>
  bnd (apd prog 25 25 (.slice s_3.a s_3.len s_3.cap) (.slice s_5.a s_5.len s_5.cap) w_6) fun s_7 w_8 =>
  bnd (ref11_Sums K s_7 w_8) fun r_9 w_10 =>
  bnd (newB z60 60 w_10) fun s_11 w_12 =>
  if (r_9.1).size = 4 then ((stA s_11 r_9.1 w_12).bind fun w_13 =>
  bnd (ref11_Powers K 255 w_13) fun r_14 w_15 =>
  bnd (ref11_Coded_l0 K K b0 s_11 r_14.1 ⟨none, 0, 0⟩ 0 w_15) fun y_29 w_30 =>
  bnd (ref11_Solve K y_29.1 w_30) fun r_31 w_32 =>
  bnd (bldS prog 25 0 #[] w_32) fun s_33 w_34 =>
  bnd (apd prog 25 25 (.slice s_33.a s_33.len s_33.cap) (.slice b0.a b0.len b0.cap) w_34) fun s_35 w_36 =>
  bnd (apd prog 25 25 (.slice s_35.a s_35.len s_35.cap) (.slice r_31.1.a r_31.1.len r_31.1.cap) w_36) fun s_37 w_38 =>
  some ((s_37, ()), w_38)) else none
theorem ref11_Coded_l0_ok (K : Nat) (n : Nat) : StmtNOk prog [(0, .sl), (4, .addr), (5, .sl), (6, .sl), (7, .int .i64)] [(6, .sl)] [(6, 8), (18, 43)] ((fun n x w => ref11_Coded_l0 K n x.1 x.2.1 x.2.2.1 x.2.2.2.1 x.2.2.2.2.1 w) n) (.block 0 (.loop (cd (bodyOf f31) [1, 1, 1, 1, 1, 0, 1, 0, 0]))) :=
    mk_loopN (O := tabL []) (root := (bodyOf f31)) (π := [1, 1, 1, 1, 1, 0, 1, 0, 0]) (id := 0) (Li := [(0, .sl), (4, .addr), (5, .sl), (6, .sl), (7, .int .i64)]) (Lo := [(6, .sl)]) (S := (fun n x w => ref11_Coded_l0 K n x.1 x.2.1 x.2.2.1 x.2.2.2.1 x.2.2.2.2.1 w)) (body := cd (bodyOf f31) [1, 1, 1, 1, 1, 0, 1, 0, 0]) (ref11_Coded_Eok K) (ref11_Coded_Rok K) rfl (Orc.nil _ _ _) (by kernel_rfl) (fun _ _ => by kernel_rfl) (fun _ _ _ => by kernel_rfl) n
noncomputable def ref11_Coded_l0_se (K : Nat) : SE := stmtN [(0, .sl), (4, .addr), (5, .sl), (6, .sl), (7, .int .i64)] [(6, .sl)] [(6, 8), (18, 43)] (fun x w => ref11_Coded_l0 K K x.1 x.2.1 x.2.2.1 x.2.2.2.1 x.2.2.2.2.1 w)
theorem ref11_Coded_l0_se_ok (K : Nat) (R : Rg) (h : subRB [(6, 8), (18, 43)] R = true) : (ref11_Coded_l0_se K).Ok prog R (.block 0 (.loop (cd (bodyOf f31) [1, 1, 1, 1, 1, 0, 1, 0, 0]))) := stmtN_ok (Li := [(0, .sl), (4, .addr), (5, .sl), (6, .sl), (7, .int .i64)]) (Lo := [(6, .sl)]) (S := (fun x w => ref11_Coded_l0 K K x.1 x.2.1 x.2.2.1 x.2.2.2.1 x.2.2.2.2.1 w)) (ref11_Coded_l0_ok K K) (subR_of h)
theorem ref11_Coded_facts : FunFacts prog 31 f31 (bodyOf f31) [(0, .sl)] [(0, 53)] := ⟨func31, by kernel_rfl, by kernel_rfl, by kernel_rfl, by kernel_rfl, by kernel_rfl⟩
theorem ref11_Coded_calls (K : Nat) (x : TT [(0, .sl)]) (w : World) (y : TR [.sl]) (w2 : World) (h : ref11_Coded K x.1 w = some (y, w2)) : Calls prog 31 (encA [(0, .sl)] x).toArray w (fun e w3 => e = .returned (resV (encR [.sl] y)) ∧ w3 = w2) :=
    mk_fun (O := tabL [([1, 1, 1, 1, 1, 0, 1], ref11_Coded_l0_se K)]) (Lp := [(0, .sl)]) (Rt := [.sl]) (S := (fun x w => ref11_Coded K x.1 w)) (ref11_Coded_Eok K) (ref11_Coded_Rok K) rfl ref11_Coded_facts (Orc.cons (by kernel_rfl) (ref11_Coded_l0_se_ok K [(0, 53)] (by kernel_rfl)) (Orc.nil _ _ _)) (fun _ _ => by kernel_rfl) x w y w2 h
noncomputable def ref11_Coded_ce (K : Nat) : CE := funE [(0, .sl)] [.sl] (fun x w => ref11_Coded K x.1 w)
theorem ref11_Coded_ok (K : Nat) : (ref11_Coded_ce K).Ok prog 31 := funE_ok (Rt := [.sl]) (S := (fun x w => ref11_Coded K x.1 w)) ref11_Coded_facts fun x w y w2 h => ref11_Coded_calls K x w y w2 h

noncomputable def ref11_Bytes_E (K : Nat) : List (Nat × CE) := [(31, ref11_Coded_ce K)]
theorem ref11_Bytes_Eok (K : Nat) : Env.Ok prog (tab (ref11_Bytes_E K)) := (Env.cons (ref11_Coded_ok K) (Env.nil _))
noncomputable def ref11_Bytes_R (K : Nat) : List (Nat × RE) := []
theorem ref11_Bytes_Rok (K : Nat) : REnv.Ok prog (tab (ref11_Bytes_R K)) := (REnv.nil _)
/-- coffer/cofferref11.Bytes -/
noncomputable def ref11_Bytes (K : Nat) (s0 : Array Value) (values1 : Sl) (w : World) : Option ((Sl × Unit) × World) :=
  bnd (newB s0 33 w) fun p_1 w_2 =>
  (ldI .u16 (p_1.add 0) w_2).bind fun v_3 =>
  (ldI .u16 (p_1.add 0) w_2).bind fun v_4 =>
  (ldI .i64 (p_1.add 1) w_2).bind fun v_5 =>
  (ldI .i64 (p_1.add 2) w_2).bind fun v_6 =>
  (ldI .i64 (p_1.add 3) w_2).bind fun v_7 =>
  bnd (bldS prog 25 5 #[(0, (.int .u8 (IntKind.u8.wrap (IntKind.u16.wrap (Int.tdiv v_3 256))))), (1, (.int .u8 (IntKind.u8.wrap (Int.tmod v_4 256)))), (2, (.int .u8 (IntKind.u8.wrap v_5))), (3, (.int .u8 (IntKind.u8.wrap v_6))), (4, (.int .u8 (IntKind.u8.wrap v_7)))] w_2) fun s_8 w_9 =>
  bnd (apd prog 25 25 (.slice s_8.a s_8.len s_8.cap) (.slice values1.a values1.len values1.cap) w_9) fun s_10 w_11 =>
  if ((Int.tmod ((s_10.len : Nat) : Int) 2) == 1) = true then (bnd (bldS prog 25 1 #[(0, (.int .u8 0))] w_11) fun s_12 w_13 =>
  bnd (apd prog 25 25 (.slice s_10.a s_10.len s_10.cap) (.slice s_12.a s_12.len s_12.cap) w_13) fun s_14 w_15 =>
  bnd (ref11_Coded K s_14 w_15) fun r_16 w_17 =>
  some ((r_16.1, ()), w_17)) else (bnd (ref11_Coded K s_10 w_11) fun r_18 w_19 =>
  some ((r_18.1, ()), w_19))
theorem ref11_Bytes_facts : FunFacts prog 23 f23 (bodyOf f23) [(0, .agg), (1, .sl)] [(0, 36)] := ⟨func23, by kernel_rfl, by kernel_rfl, by kernel_rfl, by kernel_rfl, by kernel_rfl⟩
theorem ref11_Bytes_calls (K : Nat) (x : TT [(0, .agg), (1, .sl)]) (w : World) (y : TR [.sl]) (w2 : World) (h : ref11_Bytes K x.1 x.2.1 w = some (y, w2)) : Calls prog 23 (encA [(0, .agg), (1, .sl)] x).toArray w (fun e w3 => e = .returned (resV (encR [.sl] y)) ∧ w3 = w2) :=
    mk_fun (O := tabL []) (Lp := [(0, .agg), (1, .sl)]) (Rt := [.sl]) (S := (fun x w => ref11_Bytes K x.1 x.2.1 w)) (ref11_Bytes_Eok K) (ref11_Bytes_Rok K) rfl ref11_Bytes_facts (Orc.nil _ _ _) (fun _ _ => by kernel_rfl) x w y w2 h
noncomputable def ref11_Bytes_ce (K : Nat) : CE := funE [(0, .agg), (1, .sl)] [.sl] (fun x w => ref11_Bytes K x.1 x.2.1 w)
theorem ref11_Bytes_ok (K : Nat) : (ref11_Bytes_ce K).Ok prog 23 := funE_ok (Rt := [.sl]) (S := (fun x w => ref11_Bytes K x.1 x.2.1 w)) ref11_Bytes_facts fun x w y w2 h => ref11_Bytes_calls K x w y w2 h

noncomputable def ref11_Part_Line_E (K : Nat) : List (Nat × CE) := [(23, ref11_Bytes_ce K), (12, ref11_Words_ce K)]
theorem ref11_Part_Line_Eok (K : Nat) : Env.Ok prog (tab (ref11_Part_Line_E K)) := (Env.cons (ref11_Bytes_ok K) (Env.cons (ref11_Words_ok K) (Env.nil _)))
noncomputable def ref11_Part_Line_R (K : Nat) : List (Nat × RE) := []
theorem ref11_Part_Line_Rok (K : Nat) : REnv.Ok prog (tab (ref11_Part_Line_R K)) := (REnv.nil _)
/-- (coffer/cofferref11.Part).Line -/
noncomputable def ref11_Part_Line (K : Nat) (p0 : Array Value) (w : World) : Option ((ByteArray × Unit) × World) :=
  bnd (newB p0 35 w) fun p_1 w_2 =>
  (ldA 4 (p_1.add 0) w_2).bind fun v_3 =>
  (ldS (p_1.add 4) w_2).bind fun v_4 =>
  bnd (ref11_Bytes K v_3 v_4 w_2) fun r_5 w_6 =>
  bnd (ref11_Words K r_5.1 w_6) fun r_7 w_8 =>
  some ((r_7.1, ()), w_8)
theorem ref11_Part_Line_facts : FunFacts prog 15 f15 (bodyOf f15) [(0, .agg)] [(0, 9)] := ⟨func15, by kernel_rfl, by kernel_rfl, by kernel_rfl, by kernel_rfl, by kernel_rfl⟩
theorem ref11_Part_Line_calls (K : Nat) (x : TT [(0, .agg)]) (w : World) (y : TR [.str]) (w2 : World) (h : ref11_Part_Line K x.1 w = some (y, w2)) : Calls prog 15 (encA [(0, .agg)] x).toArray w (fun e w3 => e = .returned (resV (encR [.str] y)) ∧ w3 = w2) :=
    mk_fun (O := tabL []) (Lp := [(0, .agg)]) (Rt := [.str]) (S := (fun x w => ref11_Part_Line K x.1 w)) (ref11_Part_Line_Eok K) (ref11_Part_Line_Rok K) rfl ref11_Part_Line_facts (Orc.nil _ _ _) (fun _ _ => by kernel_rfl) x w y w2 h
noncomputable def ref11_Part_Line_ce (K : Nat) : CE := funE [(0, .agg)] [.str] (fun x w => ref11_Part_Line K x.1 w)
theorem ref11_Part_Line_ok (K : Nat) : (ref11_Part_Line_ce K).Ok prog 15 := funE_ok (Rt := [.str]) (S := (fun x w => ref11_Part_Line K x.1 w)) ref11_Part_Line_facts fun x w y w2 h => ref11_Part_Line_calls K x w y w2 h

noncomputable def law11_num_R : List (Nat × RE) := []
theorem law11_num_Rok : REnv.Ok prog (tab (law11_num_R)) := (REnv.nil _)
/-- coffer/cofferlaw11.num -/
noncomputable def law11_num (e0 : Int) : Option (Int × Unit) :=
  some (e0, ())
theorem law11_num_facts : FunFacts prog 18 f18 (bodyOf f18) [(0, .int .i64)] [(0, 4)] := ⟨func18, by kernel_rfl, by kernel_rfl, by kernel_rfl, by kernel_rfl, by kernel_rfl⟩
theorem law11_num_calls (x : TT [(0, .int .i64)]) (w : World) (y : TR [.int .i64]) (h : law11_num x.1 = some y) : Calls prog 18 (encA [(0, .int .i64)] x).toArray w (fun e w3 => e = .returned (resV (encR [.int .i64] y)) ∧ w3 = w) :=
    mk_funQ (O := tabL []) (Lp := [(0, .int .i64)]) (Rt := [.int .i64]) (S := (fun x w => law11_num x.1)) (law11_num_Rok) law11_num_facts (OrcQ.nil _ _ _) (fun _ _ => by kernel_rfl) x w y h
noncomputable def law11_num_re : RE := funR [(0, .int .i64)] [.int .i64] (fun x w => law11_num x.1)
theorem law11_num_ok : (law11_num_re).Ok prog 18 := funR_ok (Rt := [.int .i64]) (S := (fun x w => law11_num x.1)) law11_num_facts fun x w y h => law11_num_calls x w y h

noncomputable def slices_Clone_byte_byte_E : List (Nat × CE) := []
theorem slices_Clone_byte_byte_Eok : Env.Ok prog (tab (slices_Clone_byte_byte_E)) := (Env.nil _)
noncomputable def slices_Clone_byte_byte_R : List (Nat × RE) := []
theorem slices_Clone_byte_byte_Rok : REnv.Ok prog (tab (slices_Clone_byte_byte_R)) := (REnv.nil _)
/-- slices.Clone[[]byte,byte] -/
noncomputable def slices_Clone_byte_byte (s0 : Sl) (w : World) : Option ((Sl × Unit) × World) :=
  if s0.a.isNone = true then (some ((⟨none, 0, 0⟩, ()), w)) else (bnd (bldS prog 25 0 #[] w) fun s_1 w_2 =>
  bnd (apd prog 25 25 (.slice s_1.a s_1.len s_1.cap) (.slice s0.a s0.len s0.cap) w_2) fun s_3 w_4 =>
  some ((s_3, ()), w_4))
theorem slices_Clone_byte_byte_facts : FunFacts prog 44 f44 (bodyOf f44) [(0, .sl)] [(0, 8)] := ⟨func44, by kernel_rfl, by kernel_rfl, by kernel_rfl, by kernel_rfl, by kernel_rfl⟩
theorem slices_Clone_byte_byte_calls (x : TT [(0, .sl)]) (w : World) (y : TR [.sl]) (w2 : World) (h : slices_Clone_byte_byte x.1 w = some (y, w2)) : Calls prog 44 (encA [(0, .sl)] x).toArray w (fun e w3 => e = .returned (resV (encR [.sl] y)) ∧ w3 = w2) :=
    mk_fun (O := tabL []) (Lp := [(0, .sl)]) (Rt := [.sl]) (S := (fun x w => slices_Clone_byte_byte x.1 w)) (slices_Clone_byte_byte_Eok) (slices_Clone_byte_byte_Rok) rfl slices_Clone_byte_byte_facts (Orc.nil _ _ _) (fun _ _ => by kernel_rfl) x w y w2 h
noncomputable def slices_Clone_byte_byte_ce : CE := funE [(0, .sl)] [.sl] (fun x w => slices_Clone_byte_byte x.1 w)
theorem slices_Clone_byte_byte_ok : (slices_Clone_byte_byte_ce).Ok prog 44 := funE_ok (Rt := [.sl]) (S := (fun x w => slices_Clone_byte_byte x.1 w)) slices_Clone_byte_byte_facts fun x w y w2 h => slices_Clone_byte_byte_calls x w y w2 h

noncomputable def rijndael_Times_R (K : Nat) : List (Nat × RE) := []
theorem rijndael_Times_Rok (K : Nat) : REnv.Ok prog (tab (rijndael_Times_R K)) := (REnv.nil _)
noncomputable def rijndael_Times_s1 (K : Nat) (a0 : Int) (p5 : Int) (a11 : Bool) : Option (Out (Int × Unit) (Int × Unit)) :=
  if a11 = true then (some (.norm ((bits .xor .u8 p5 a0), ()))) else (some (.norm (p5, ())))
noncomputable def rijndael_Times_l0_b (K : Nat) (rec : Int → Int → Int → Option (Out (Int × Unit) (Int × Unit))) (a0 : Int) (b1 : Int) (p5 : Int) : Option (Out (Int × Unit) (Int × Unit)) :=
  if (b1 != 0) = true then ((rijndael_Times_s1 K a0 p5 ((bits .and .u8 b1 1) != 0)).bind fun y_1 =>
  (match y_1 with
  | .norm z_2n => (if ((bits .and .u8 a0 128) != 0) = true then (rec (bits .xor .u8 (IntKind.u8.wrap (a0 * 2 ^ 1)) 27) (Int.fdiv b1 (2 ^ 1)) z_2n.1) else (rec (IntKind.u8.wrap (a0 * 2 ^ 1)) (Int.fdiv b1 (2 ^ 1)) z_2n.1))
  | .ret z_2r => (some (.ret (z_2r.1, ()))))) else (some (.norm (p5, ())))
noncomputable def rijndael_Times_l0 (K : Nat) (n : Nat) : Int → Int → Int → Option (Out (Int × Unit) (Int × Unit)) := iter (fun _ _ _ => none) (rijndael_Times_l0_b K) n
/-- coffer/rijndael.Times -/
noncomputable def rijndael_Times (K : Nat) (a0 : Int) (b1 : Int) : Option (Int × Unit) :=
  (rijndael_Times_l0 K K a0 b1 0).bind fun y_3 =>
  (match y_3 with
  | .norm z_4n => (some (z_4n.1, ()))
  | .ret z_4r => (some (z_4r.1, ())))
theorem rijndael_Times_s1_ok (K : Nat) : StmtQOk prog [(0, .int .u8), (5, .int .u8), (11, .bool)] [(5, .int .u8)] [(4, .int .u8)] [(5, 6), (12, 15)] (fun x w => rijndael_Times_s1 K x.1 x.2.1 x.2.2.1) (cd (bodyOf f41) [1, 1, 0, 0, 0, 1, 0, 0, 1]) :=
    mk_stmtQ (O := tabL []) (root := (bodyOf f41)) (π := [1, 1, 0, 0, 0, 1, 0, 0, 1]) (Li := [(0, .int .u8), (5, .int .u8), (11, .bool)]) (Lo := [(5, .int .u8)]) (Lr := [(4, .int .u8)]) (S := (fun x w => rijndael_Times_s1 K x.1 x.2.1 x.2.2.1)) (rijndael_Times_Rok K) (OrcQ.nil _ _ _) (by kernel_rfl) (fun _ _ => by kernel_rfl)
noncomputable def rijndael_Times_s1_se (K : Nat) : SQ := stmtQ [(0, .int .u8), (5, .int .u8), (11, .bool)] [(5, .int .u8)] [(4, .int .u8)] [(5, 6), (12, 15)] (fun x w => rijndael_Times_s1 K x.1 x.2.1 x.2.2.1)
theorem rijndael_Times_s1_se_ok (K : Nat) (R : Rg) (h : subRB [(5, 6), (12, 15)] R = true) : (rijndael_Times_s1_se K).Ok prog R (cd (bodyOf f41) [1, 1, 0, 0, 0, 1, 0, 0, 1]) := stmtQ_ok (Li := [(0, .int .u8), (5, .int .u8), (11, .bool)]) (Lo := [(5, .int .u8)]) (Lr := [(4, .int .u8)]) (S := (fun x w => rijndael_Times_s1 K x.1 x.2.1 x.2.2.1)) (rijndael_Times_s1_ok K) (subR_of h)
theorem rijndael_Times_l0_ok (K : Nat) (n : Nat) : StmtQOk prog [(0, .int .u8), (1, .int .u8), (5, .int .u8)] [(5, .int .u8)] [(4, .int .u8)] [(0, 2), (5, 25)] ((fun n x w => rijndael_Times_l0 K n x.1 x.2.1 x.2.2.1) n) (.block 0 (.loop (cd (bodyOf f41) [1, 1, 0, 0, 0]))) :=
    mk_loopQ (O := tabL [([1, 1, 0, 0, 0, 1, 0, 0, 1], rijndael_Times_s1_se K)]) (root := (bodyOf f41)) (π := [1, 1, 0, 0, 0]) (id := 0) (Li := [(0, .int .u8), (1, .int .u8), (5, .int .u8)]) (Lo := [(5, .int .u8)]) (Lr := [(4, .int .u8)]) (S := (fun n x w => rijndael_Times_l0 K n x.1 x.2.1 x.2.2.1)) (body := cd (bodyOf f41) [1, 1, 0, 0, 0]) (rijndael_Times_Rok K) (OrcQ.cons (by kernel_rfl) (rijndael_Times_s1_se_ok K [(0, 2), (5, 25)] (by kernel_rfl)) (OrcQ.nil _ _ _)) (by kernel_rfl) (fun _ _ => by kernel_rfl) (fun _ _ _ => by kernel_rfl) n
noncomputable def rijndael_Times_l0_se (K : Nat) : SQ := stmtQ [(0, .int .u8), (1, .int .u8), (5, .int .u8)] [(5, .int .u8)] [(4, .int .u8)] [(0, 2), (5, 25)] (fun x w => rijndael_Times_l0 K K x.1 x.2.1 x.2.2.1)
theorem rijndael_Times_l0_se_ok (K : Nat) (R : Rg) (h : subRB [(0, 2), (5, 25)] R = true) : (rijndael_Times_l0_se K).Ok prog R (.block 0 (.loop (cd (bodyOf f41) [1, 1, 0, 0, 0]))) := stmtQ_ok (Li := [(0, .int .u8), (1, .int .u8), (5, .int .u8)]) (Lo := [(5, .int .u8)]) (Lr := [(4, .int .u8)]) (S := (fun x w => rijndael_Times_l0 K K x.1 x.2.1 x.2.2.1)) (rijndael_Times_l0_ok K K) (subR_of h)
theorem rijndael_Times_facts : FunFacts prog 41 f41 (bodyOf f41) [(0, .int .u8), (1, .int .u8)] [(0, 26)] := ⟨func41, by kernel_rfl, by kernel_rfl, by kernel_rfl, by kernel_rfl, by kernel_rfl⟩
theorem rijndael_Times_calls (K : Nat) (x : TT [(0, .int .u8), (1, .int .u8)]) (w : World) (y : TR [.int .u8]) (h : rijndael_Times K x.1 x.2.1 = some y) : Calls prog 41 (encA [(0, .int .u8), (1, .int .u8)] x).toArray w (fun e w3 => e = .returned (resV (encR [.int .u8] y)) ∧ w3 = w) :=
    mk_funQ (O := tabL [([1, 1, 0], rijndael_Times_l0_se K), ([1, 1, 0, 0, 0, 1, 0, 0, 1], rijndael_Times_s1_se K)]) (Lp := [(0, .int .u8), (1, .int .u8)]) (Rt := [.int .u8]) (S := (fun x w => rijndael_Times K x.1 x.2.1)) (rijndael_Times_Rok K) rijndael_Times_facts (OrcQ.cons (by kernel_rfl) (rijndael_Times_l0_se_ok K [(0, 26)] (by kernel_rfl)) (OrcQ.cons (by kernel_rfl) (rijndael_Times_s1_se_ok K [(0, 26)] (by kernel_rfl)) (OrcQ.nil _ _ _))) (fun _ _ => by kernel_rfl) x w y h
noncomputable def rijndael_Times_re (K : Nat) : RE := funR [(0, .int .u8), (1, .int .u8)] [.int .u8] (fun x w => rijndael_Times K x.1 x.2.1)
theorem rijndael_Times_ok (K : Nat) : (rijndael_Times_re K).Ok prog 41 := funR_ok (Rt := [.int .u8]) (S := (fun x w => rijndael_Times K x.1 x.2.1)) rijndael_Times_facts fun x w y h => rijndael_Times_calls K x w y h

noncomputable def escrow_power_R (K : Nat) : List (Nat × RE) := [(41, rijndael_Times_re K)]
theorem escrow_power_Rok (K : Nat) : REnv.Ok prog (tab (escrow_power_R K)) := (REnv.cons (rijndael_Times_ok K) (REnv.nil _))
noncomputable def escrow_power_l0_b (K : Nat) (rec : Int → Int → Int → Option (Out (Int × Unit) (Int × Unit))) (v3 : Int) (a5 : Int) (a6 : Int) : Option (Out (Int × Unit) (Int × Unit)) :=
  if (decide (a6 < a5)) = true then ((rijndael_Times K v3 3).bind fun r_1 =>
  rec r_1.1 a5 (IntKind.i64.wrap (a6 + 1))) else (some (.norm (v3, ())))
noncomputable def escrow_power_l0 (K : Nat) (n : Nat) : Int → Int → Int → Option (Out (Int × Unit) (Int × Unit)) := iter (fun _ _ _ => none) (escrow_power_l0_b K) n
/-- coffer/escrow.power -/
noncomputable def escrow_power (K : Nat) (n0 : Int) : Option (Int × Unit) :=
  (escrow_power_l0 K K 1 (Int.tmod n0 255) 0).bind fun y_2 =>
  (match y_2 with
  | .norm z_3n => (some (z_3n.1, ()))
  | .ret z_3r => (some (z_3r.1, ())))
theorem escrow_power_l0_ok (K : Nat) (n : Nat) : StmtQOk prog [(3, .int .u8), (5, .int .i64), (6, .int .i64)] [(3, .int .u8)] [(2, .int .u8)] [(3, 4), (6, 11)] ((fun n x w => escrow_power_l0 K n x.1 x.2.1 x.2.2.1) n) (.block 0 (.loop (cd (bodyOf f43) [1, 1, 0, 1, 0, 0]))) :=
    mk_loopQ (O := tabL []) (root := (bodyOf f43)) (π := [1, 1, 0, 1, 0, 0]) (id := 0) (Li := [(3, .int .u8), (5, .int .i64), (6, .int .i64)]) (Lo := [(3, .int .u8)]) (Lr := [(2, .int .u8)]) (S := (fun n x w => escrow_power_l0 K n x.1 x.2.1 x.2.2.1)) (body := cd (bodyOf f43) [1, 1, 0, 1, 0, 0]) (escrow_power_Rok K) (OrcQ.nil _ _ _) (by kernel_rfl) (fun _ _ => by kernel_rfl) (fun _ _ _ => by kernel_rfl) n
noncomputable def escrow_power_l0_se (K : Nat) : SQ := stmtQ [(3, .int .u8), (5, .int .i64), (6, .int .i64)] [(3, .int .u8)] [(2, .int .u8)] [(3, 4), (6, 11)] (fun x w => escrow_power_l0 K K x.1 x.2.1 x.2.2.1)
theorem escrow_power_l0_se_ok (K : Nat) (R : Rg) (h : subRB [(3, 4), (6, 11)] R = true) : (escrow_power_l0_se K).Ok prog R (.block 0 (.loop (cd (bodyOf f43) [1, 1, 0, 1, 0, 0]))) := stmtQ_ok (Li := [(3, .int .u8), (5, .int .i64), (6, .int .i64)]) (Lo := [(3, .int .u8)]) (Lr := [(2, .int .u8)]) (S := (fun x w => escrow_power_l0 K K x.1 x.2.1 x.2.2.1)) (escrow_power_l0_ok K K) (subR_of h)
theorem escrow_power_facts : FunFacts prog 43 f43 (bodyOf f43) [(0, .int .i64)] [(0, 12)] := ⟨func43, by kernel_rfl, by kernel_rfl, by kernel_rfl, by kernel_rfl, by kernel_rfl⟩
theorem escrow_power_calls (K : Nat) (x : TT [(0, .int .i64)]) (w : World) (y : TR [.int .u8]) (h : escrow_power K x.1 = some y) : Calls prog 43 (encA [(0, .int .i64)] x).toArray w (fun e w3 => e = .returned (resV (encR [.int .u8] y)) ∧ w3 = w) :=
    mk_funQ (O := tabL [([1, 1, 0, 1], escrow_power_l0_se K)]) (Lp := [(0, .int .i64)]) (Rt := [.int .u8]) (S := (fun x w => escrow_power K x.1)) (escrow_power_Rok K) escrow_power_facts (OrcQ.cons (by kernel_rfl) (escrow_power_l0_se_ok K [(0, 12)] (by kernel_rfl)) (OrcQ.nil _ _ _)) (fun _ _ => by kernel_rfl) x w y h
noncomputable def escrow_power_re (K : Nat) : RE := funR [(0, .int .i64)] [.int .u8] (fun x w => escrow_power K x.1)
theorem escrow_power_ok (K : Nat) : (escrow_power_re K).Ok prog 43 := funR_ok (Rt := [.int .u8]) (S := (fun x w => escrow_power K x.1)) escrow_power_facts fun x w y h => escrow_power_calls K x w y h

noncomputable def escrow_coded_E (K : Nat) : List (Nat × CE) := [(44, slices_Clone_byte_byte_ce)]
theorem escrow_coded_Eok (K : Nat) : Env.Ok prog (tab (escrow_coded_E K)) := (Env.cons (slices_Clone_byte_byte_ok) (Env.nil _))
noncomputable def escrow_coded_R (K : Nat) : List (Nat × RE) := [(43, escrow_power_re K), (41, rijndael_Times_re K)]
theorem escrow_coded_Rok (K : Nat) : REnv.Ok prog (tab (escrow_coded_R K)) := (REnv.cons (escrow_power_ok K) (REnv.cons (rijndael_Times_ok K) (REnv.nil _)))
noncomputable def escrow_coded_l1_b (K : Nat) (rec : Sl → Int → Sl → Int → Sl → Int → Int → World → Option ((Unit) × World)) (b0 : Sl) (j4 : Int) (next5 : Sl) (a14 : Int) (a21 : Sl) (a22 : Int) (a23 : Int) (w : World) : Option ((Unit) × World) :=
  if (decide (a23 < a22)) = true then ((a21.a).bind fun p_9 =>
  if (0 : Int) ≤ a23 ∧ a23 < ((a21.len : Nat) : Int) then ((ldI .u8 (p_9.add ((Int.toNat a23) * 1)) w).bind fun v_10 =>
  (next5.a).bind fun p_11 =>
  if (0 : Int) ≤ (IntKind.i64.wrap (a23 + 1)) ∧ (IntKind.i64.wrap (a23 + 1)) < ((next5.len : Nat) : Int) then ((ldI .u8 (p_11.add ((Int.toNat (IntKind.i64.wrap (a23 + 1))) * 1)) w.drew).bind fun v_12 =>
  (escrow_power K j4).bind fun r_13 =>
  (rijndael_Times K v_10 r_13.1).bind fun r_14 =>
  (next5.a).bind fun p_15 =>
  if (0 : Int) ≤ (IntKind.i64.wrap (a23 + 1)) ∧ (IntKind.i64.wrap (a23 + 1)) < ((next5.len : Nat) : Int) then ((stC (p_15.add ((Int.toNat (IntKind.i64.wrap (a23 + 1))) * 1)) (.int .u8 (bits .xor .u8 v_12 r_14.1)) w.drew).bind fun w_16 =>
  rec b0 j4 next5 a14 a21 a22 (IntKind.i64.wrap (a23 + 1)) w_16) else none) else none) else none) else (some ((), w))
noncomputable def escrow_coded_l1 (K : Nat) (n : Nat) : Sl → Int → Sl → Int → Sl → Int → Int → World → Option ((Unit) × World) := iter (fun _ _ _ _ _ _ _ _ => none) (escrow_coded_l1_b K) n
noncomputable def escrow_coded_l0_b (K : Nat) (rec : Sl → Sl → Int → World → Option ((Sl × Unit) × World)) (b0 : Sl) (g3 : Sl) (a14 : Int) (w : World) : Option ((Sl × Unit) × World) :=
  if (decide (a14 < 4)) = true then (bnd (slices_Clone_byte_byte g3 w) fun r_3 w_4 =>
  bnd (bldS prog 25 1 #[(0, (.int .u8 0))] w_4) fun s_5 w_6 =>
  bnd (apd prog 25 25 (.slice r_3.1.a r_3.1.len r_3.1.cap) (.slice s_5.a s_5.len s_5.cap) w_6) fun s_7 w_8 =>
  bnd (escrow_coded_l1 K K b0 a14 s_7 a14 g3 ((g3.len : Nat) : Int) 0 w_8) fun y_17 w_18 =>
  rec b0 s_7 (IntKind.i64.wrap (a14 + 1)) w_18) else (some ((g3, ()), w))
noncomputable def escrow_coded_l0 (K : Nat) (n : Nat) : Sl → Sl → Int → World → Option ((Sl × Unit) × World) := iter (fun _ _ _ _ => none) (escrow_coded_l0_b K) n
noncomputable def escrow_coded_l3_b (K : Nat) (rec : Sl → Sl → Sl → Int → Int → Int → Int → Sl → Int → Int → World → Option ((Unit) × World)) (b0 : Sl) (g3 : Sl) (rest8 : Sl) (i9 : Int) (c10 : Int) (a46 : Int) (a47 : Int) (a54 : Sl) (a55 : Int) (a56 : Int) (w : World) : Option ((Unit) × World) :=
  if (decide (a56 < a55)) = true then ((a54.a).bind fun p_27 =>
  if (0 : Int) ≤ a56 ∧ a56 < ((a54.len : Nat) : Int) then ((ldI .u8 (p_27.add ((Int.toNat a56) * 1)) w).bind fun v_28 =>
  (rest8.a).bind fun p_29 =>
  if (0 : Int) ≤ (IntKind.i64.wrap (i9 + a56)) ∧ (IntKind.i64.wrap (i9 + a56)) < ((rest8.len : Nat) : Int) then ((ldI .u8 (p_29.add ((Int.toNat (IntKind.i64.wrap (i9 + a56))) * 1)) w.drew).bind fun v_30 =>
  (rijndael_Times K c10 v_28).bind fun r_31 =>
  (rest8.a).bind fun p_32 =>
  if (0 : Int) ≤ (IntKind.i64.wrap (i9 + a56)) ∧ (IntKind.i64.wrap (i9 + a56)) < ((rest8.len : Nat) : Int) then ((stC (p_32.add ((Int.toNat (IntKind.i64.wrap (i9 + a56))) * 1)) (.int .u8 (bits .xor .u8 v_30 r_31.1)) w.drew).bind fun w_33 =>
  rec b0 g3 rest8 i9 c10 a46 a47 a54 a55 (IntKind.i64.wrap (a56 + 1)) w_33) else none) else none) else none) else (some ((), w))
noncomputable def escrow_coded_l3 (K : Nat) (n : Nat) : Sl → Sl → Sl → Int → Int → Int → Int → Sl → Int → Int → World → Option ((Unit) × World) := iter (fun _ _ _ _ _ _ _ _ _ _ _ => none) (escrow_coded_l3_b K) n
noncomputable def escrow_coded_l2_b (K : Nat) (rec : Sl → Sl → Sl → Int → Int → World → Option ((Unit) × World)) (b0 : Sl) (g3 : Sl) (rest8 : Sl) (a46 : Int) (a47 : Int) (w : World) : Option ((Unit) × World) :=
  if (decide (a47 < a46)) = true then ((rest8.a).bind fun p_25 =>
  if (0 : Int) ≤ a47 ∧ a47 < ((rest8.len : Nat) : Int) then ((ldI .u8 (p_25.add ((Int.toNat a47) * 1)) w).bind fun v_26 =>
  bnd (escrow_coded_l3 K K b0 g3 rest8 a47 v_26 a46 a47 g3 ((g3.len : Nat) : Int) 0 w) fun y_34 w_35 =>
  rec b0 g3 rest8 a46 (IntKind.i64.wrap (a47 + 1)) w_35) else none) else (some ((), w))
noncomputable def escrow_coded_l2 (K : Nat) (n : Nat) : Sl → Sl → Sl → Int → Int → World → Option ((Unit) × World) := iter (fun _ _ _ _ _ _ => none) (escrow_coded_l2_b K) n
/-- coffer/escrow.coded -/
noncomputable def escrow_coded (K : Nat) (b0 : Sl) (w : World) : Option ((Sl × Unit) × World) :=
  bnd (bldS prog 25 1 #[(0, (.int .u8 1))] w) fun s_1 w_2 =>
  bnd (escrow_coded_l0 K K b0 s_1 0 w_2) fun y_19 w_20 =>
  bnd (slices_Clone_byte_byte b0 w_20) fun r_21 w_22 =>
  bnd (apd prog 25 3 (.slice r_21.1.a r_21.1.len r_21.1.cap) (.int .i64 4) w_22) fun s_23 w_24 =>
  bnd (escrow_coded_l2 K K b0 y_19.1 s_23 ((b0.len : Nat) : Int) 0 w_24) fun y_36 w_37 =>
  if (0 : Int) ≤ ((b0.len : Nat) : Int) ∧ ((b0.len : Nat) : Int) ≤ ((s_23.len : Nat) : Int) then (bnd (slices_Clone_byte_byte b0 w_37.drew) fun r_38 w_39 =>
  bnd (apd prog 25 25 (.slice r_38.1.a r_38.1.len r_38.1.cap) (.slice (sla s_23.a (Int.toNat (((b0.len : Nat) : Int))) s_23.cap 1) (s_23.len - (Int.toNat (((b0.len : Nat) : Int)))) (s_23.cap - (Int.toNat (((b0.len : Nat) : Int))))) w_39) fun s_40 w_41 =>
  some ((s_40, ()), w_41)) else none
theorem escrow_coded_l1_ok (K : Nat) (n : Nat) : StmtNOk prog [(0, .sl), (4, .int .i64), (5, .sl), (14, .int .i64), (21, .sl), (22, .int .i64), (23, .int .i64)] [] [(6, 8), (23, 40)] ((fun n x w => escrow_coded_l1 K n x.1 x.2.1 x.2.2.1 x.2.2.2.1 x.2.2.2.2.1 x.2.2.2.2.2.1 x.2.2.2.2.2.2.1 w) n) (.block 2 (.loop (cd (bodyOf f45) [1, 1, 0, 1, 0, 0, 1, 1, 0, 0, 1, 1, 0, 1, 0, 0]))) :=
    mk_loopN (O := tabL []) (root := (bodyOf f45)) (π := [1, 1, 0, 1, 0, 0, 1, 1, 0, 0, 1, 1, 0, 1, 0, 0]) (id := 2) (Li := [(0, .sl), (4, .int .i64), (5, .sl), (14, .int .i64), (21, .sl), (22, .int .i64), (23, .int .i64)]) (Lo := []) (S := (fun n x w => escrow_coded_l1 K n x.1 x.2.1 x.2.2.1 x.2.2.2.1 x.2.2.2.2.1 x.2.2.2.2.2.1 x.2.2.2.2.2.2.1 w)) (body := cd (bodyOf f45) [1, 1, 0, 1, 0, 0, 1, 1, 0, 0, 1, 1, 0, 1, 0, 0]) (escrow_coded_Eok K) (escrow_coded_Rok K) rfl (Orc.nil _ _ _) (by kernel_rfl) (fun _ _ => by kernel_rfl) (fun _ _ _ => by kernel_rfl) n
noncomputable def escrow_coded_l1_se (K : Nat) : SE := stmtN [(0, .sl), (4, .int .i64), (5, .sl), (14, .int .i64), (21, .sl), (22, .int .i64), (23, .int .i64)] [] [(6, 8), (23, 40)] (fun x w => escrow_coded_l1 K K x.1 x.2.1 x.2.2.1 x.2.2.2.1 x.2.2.2.2.1 x.2.2.2.2.2.1 x.2.2.2.2.2.2.1 w)
theorem escrow_coded_l1_se_ok (K : Nat) (R : Rg) (h : subRB [(6, 8), (23, 40)] R = true) : (escrow_coded_l1_se K).Ok prog R (.block 2 (.loop (cd (bodyOf f45) [1, 1, 0, 1, 0, 0, 1, 1, 0, 0, 1, 1, 0, 1, 0, 0]))) := stmtN_ok (Li := [(0, .sl), (4, .int .i64), (5, .sl), (14, .int .i64), (21, .sl), (22, .int .i64), (23, .int .i64)]) (Lo := []) (S := (fun x w => escrow_coded_l1 K K x.1 x.2.1 x.2.2.1 x.2.2.2.1 x.2.2.2.2.1 x.2.2.2.2.2.1 x.2.2.2.2.2.2.1 w)) (escrow_coded_l1_ok K K) (subR_of h)
theorem escrow_coded_l0_ok (K : Nat) (n : Nat) : StmtNOk prog [(0, .sl), (3, .sl), (14, .int .i64)] [(3, .sl)] [(3, 8), (14, 42)] ((fun n x w => escrow_coded_l0 K n x.1 x.2.1 x.2.2.1 w) n) (.block 0 (.loop (cd (bodyOf f45) [1, 1, 0, 1, 0, 0]))) :=
    mk_loopN (O := tabL [([1, 1, 0, 1, 0, 0, 1, 1, 0, 0, 1, 1, 0, 1], escrow_coded_l1_se K)]) (root := (bodyOf f45)) (π := [1, 1, 0, 1, 0, 0]) (id := 0) (Li := [(0, .sl), (3, .sl), (14, .int .i64)]) (Lo := [(3, .sl)]) (S := (fun n x w => escrow_coded_l0 K n x.1 x.2.1 x.2.2.1 w)) (body := cd (bodyOf f45) [1, 1, 0, 1, 0, 0]) (escrow_coded_Eok K) (escrow_coded_Rok K) rfl (Orc.cons (by kernel_rfl) (escrow_coded_l1_se_ok K [(3, 8), (14, 42)] (by kernel_rfl)) (Orc.nil _ _ _)) (by kernel_rfl) (fun _ _ => by kernel_rfl) (fun _ _ _ => by kernel_rfl) n
noncomputable def escrow_coded_l0_se (K : Nat) : SE := stmtN [(0, .sl), (3, .sl), (14, .int .i64)] [(3, .sl)] [(3, 8), (14, 42)] (fun x w => escrow_coded_l0 K K x.1 x.2.1 x.2.2.1 w)
theorem escrow_coded_l0_se_ok (K : Nat) (R : Rg) (h : subRB [(3, 8), (14, 42)] R = true) : (escrow_coded_l0_se K).Ok prog R (.block 0 (.loop (cd (bodyOf f45) [1, 1, 0, 1, 0, 0]))) := stmtN_ok (Li := [(0, .sl), (3, .sl), (14, .int .i64)]) (Lo := [(3, .sl)]) (S := (fun x w => escrow_coded_l0 K K x.1 x.2.1 x.2.2.1 w)) (escrow_coded_l0_ok K K) (subR_of h)
theorem escrow_coded_l3_ok (K : Nat) (n : Nat) : StmtNOk prog [(0, .sl), (3, .sl), (8, .sl), (9, .int .i64), (10, .int .u8), (46, .int .i64), (47, .int .i64), (54, .sl), (55, .int .i64), (56, .int .i64)] [] [(11, 13), (56, 73)] ((fun n x w => escrow_coded_l3 K n x.1 x.2.1 x.2.2.1 x.2.2.2.1 x.2.2.2.2.1 x.2.2.2.2.2.1 x.2.2.2.2.2.2.1 x.2.2.2.2.2.2.2.1 x.2.2.2.2.2.2.2.2.1 x.2.2.2.2.2.2.2.2.2.1 w) n) (.block 6 (.loop (cd (bodyOf f45) [1, 1, 1, 1, 0, 1, 0, 0, 1, 1, 0, 0, 1, 1, 1, 0, 0]))) :=
    mk_loopN (O := tabL []) (root := (bodyOf f45)) (π := [1, 1, 1, 1, 0, 1, 0, 0, 1, 1, 0, 0, 1, 1, 1, 0, 0]) (id := 6) (Li := [(0, .sl), (3, .sl), (8, .sl), (9, .int .i64), (10, .int .u8), (46, .int .i64), (47, .int .i64), (54, .sl), (55, .int .i64), (56, .int .i64)]) (Lo := []) (S := (fun n x w => escrow_coded_l3 K n x.1 x.2.1 x.2.2.1 x.2.2.2.1 x.2.2.2.2.1 x.2.2.2.2.2.1 x.2.2.2.2.2.2.1 x.2.2.2.2.2.2.2.1 x.2.2.2.2.2.2.2.2.1 x.2.2.2.2.2.2.2.2.2.1 w)) (body := cd (bodyOf f45) [1, 1, 1, 1, 0, 1, 0, 0, 1, 1, 0, 0, 1, 1, 1, 0, 0]) (escrow_coded_Eok K) (escrow_coded_Rok K) rfl (Orc.nil _ _ _) (by kernel_rfl) (fun _ _ => by kernel_rfl) (fun _ _ _ => by kernel_rfl) n
noncomputable def escrow_coded_l3_se (K : Nat) : SE := stmtN [(0, .sl), (3, .sl), (8, .sl), (9, .int .i64), (10, .int .u8), (46, .int .i64), (47, .int .i64), (54, .sl), (55, .int .i64), (56, .int .i64)] [] [(11, 13), (56, 73)] (fun x w => escrow_coded_l3 K K x.1 x.2.1 x.2.2.1 x.2.2.2.1 x.2.2.2.2.1 x.2.2.2.2.2.1 x.2.2.2.2.2.2.1 x.2.2.2.2.2.2.2.1 x.2.2.2.2.2.2.2.2.1 x.2.2.2.2.2.2.2.2.2.1 w)
theorem escrow_coded_l3_se_ok (K : Nat) (R : Rg) (h : subRB [(11, 13), (56, 73)] R = true) : (escrow_coded_l3_se K).Ok prog R (.block 6 (.loop (cd (bodyOf f45) [1, 1, 1, 1, 0, 1, 0, 0, 1, 1, 0, 0, 1, 1, 1, 0, 0]))) := stmtN_ok (Li := [(0, .sl), (3, .sl), (8, .sl), (9, .int .i64), (10, .int .u8), (46, .int .i64), (47, .int .i64), (54, .sl), (55, .int .i64), (56, .int .i64)]) (Lo := []) (S := (fun x w => escrow_coded_l3 K K x.1 x.2.1 x.2.2.1 x.2.2.2.1 x.2.2.2.2.1 x.2.2.2.2.2.1 x.2.2.2.2.2.2.1 x.2.2.2.2.2.2.2.1 x.2.2.2.2.2.2.2.2.1 x.2.2.2.2.2.2.2.2.2.1 w)) (escrow_coded_l3_ok K K) (subR_of h)
theorem escrow_coded_l2_ok (K : Nat) (n : Nat) : StmtNOk prog [(0, .sl), (3, .sl), (8, .sl), (46, .int .i64), (47, .int .i64)] [] [(9, 13), (47, 74)] ((fun n x w => escrow_coded_l2 K n x.1 x.2.1 x.2.2.1 x.2.2.2.1 x.2.2.2.2.1 w) n) (.block 4 (.loop (cd (bodyOf f45) [1, 1, 1, 1, 0, 1, 0, 0]))) :=
    mk_loopN (O := tabL [([1, 1, 1, 1, 0, 1, 0, 0, 1, 1, 0, 0, 1, 1, 1], escrow_coded_l3_se K)]) (root := (bodyOf f45)) (π := [1, 1, 1, 1, 0, 1, 0, 0]) (id := 4) (Li := [(0, .sl), (3, .sl), (8, .sl), (46, .int .i64), (47, .int .i64)]) (Lo := []) (S := (fun n x w => escrow_coded_l2 K n x.1 x.2.1 x.2.2.1 x.2.2.2.1 x.2.2.2.2.1 w)) (body := cd (bodyOf f45) [1, 1, 1, 1, 0, 1, 0, 0]) (escrow_coded_Eok K) (escrow_coded_Rok K) rfl (Orc.cons (by kernel_rfl) (escrow_coded_l3_se_ok K [(9, 13), (47, 74)] (by kernel_rfl)) (Orc.nil _ _ _)) (by kernel_rfl) (fun _ _ => by kernel_rfl) (fun _ _ _ => by kernel_rfl) n
noncomputable def escrow_coded_l2_se (K : Nat) : SE := stmtN [(0, .sl), (3, .sl), (8, .sl), (46, .int .i64), (47, .int .i64)] [] [(9, 13), (47, 74)] (fun x w => escrow_coded_l2 K K x.1 x.2.1 x.2.2.1 x.2.2.2.1 x.2.2.2.2.1 w)
theorem escrow_coded_l2_se_ok (K : Nat) (R : Rg) (h : subRB [(9, 13), (47, 74)] R = true) : (escrow_coded_l2_se K).Ok prog R (.block 4 (.loop (cd (bodyOf f45) [1, 1, 1, 1, 0, 1, 0, 0]))) := stmtN_ok (Li := [(0, .sl), (3, .sl), (8, .sl), (46, .int .i64), (47, .int .i64)]) (Lo := []) (S := (fun x w => escrow_coded_l2 K K x.1 x.2.1 x.2.2.1 x.2.2.2.1 x.2.2.2.2.1 w)) (escrow_coded_l2_ok K K) (subR_of h)
theorem escrow_coded_facts : FunFacts prog 45 f45 (bodyOf f45) [(0, .sl)] [(0, 81)] := ⟨func45, by kernel_rfl, by kernel_rfl, by kernel_rfl, by kernel_rfl, by kernel_rfl⟩
theorem escrow_coded_calls (K : Nat) (x : TT [(0, .sl)]) (w : World) (y : TR [.sl]) (w2 : World) (h : escrow_coded K x.1 w = some (y, w2)) : Calls prog 45 (encA [(0, .sl)] x).toArray w (fun e w3 => e = .returned (resV (encR [.sl] y)) ∧ w3 = w2) :=
    mk_fun (O := tabL [([1, 1, 0, 1], escrow_coded_l0_se K), ([1, 1, 0, 1, 0, 0, 1, 1, 0, 0, 1, 1, 0, 1], escrow_coded_l1_se K), ([1, 1, 1, 1, 0, 1], escrow_coded_l2_se K), ([1, 1, 1, 1, 0, 1, 0, 0, 1, 1, 0, 0, 1, 1, 1], escrow_coded_l3_se K)]) (Lp := [(0, .sl)]) (Rt := [.sl]) (S := (fun x w => escrow_coded K x.1 w)) (escrow_coded_Eok K) (escrow_coded_Rok K) rfl escrow_coded_facts (Orc.cons (by kernel_rfl) (escrow_coded_l0_se_ok K [(0, 81)] (by kernel_rfl)) (Orc.cons (by kernel_rfl) (escrow_coded_l1_se_ok K [(0, 81)] (by kernel_rfl)) (Orc.cons (by kernel_rfl) (escrow_coded_l2_se_ok K [(0, 81)] (by kernel_rfl)) (Orc.cons (by kernel_rfl) (escrow_coded_l3_se_ok K [(0, 81)] (by kernel_rfl)) (Orc.nil _ _ _))))) (fun _ _ => by kernel_rfl) x w y w2 h
noncomputable def escrow_coded_ce (K : Nat) : CE := funE [(0, .sl)] [.sl] (fun x w => escrow_coded K x.1 w)
theorem escrow_coded_ok (K : Nat) : (escrow_coded_ce K).Ok prog 45 := funE_ok (Rt := [.sl]) (S := (fun x w => escrow_coded K x.1 w)) escrow_coded_facts fun x w y w2 h => escrow_coded_calls K x w y w2 h

noncomputable def escrow_share_bytes_E (K : Nat) : List (Nat × CE) := [(45, escrow_coded_ce K)]
theorem escrow_share_bytes_Eok (K : Nat) : Env.Ok prog (tab (escrow_share_bytes_E K)) := (Env.cons (escrow_coded_ok K) (Env.nil _))
noncomputable def escrow_share_bytes_R (K : Nat) : List (Nat × RE) := []
theorem escrow_share_bytes_Rok (K : Nat) : REnv.Ok prog (tab (escrow_share_bytes_R K)) := (REnv.nil _)
/-- (coffer/escrow.share).bytes -/
noncomputable def escrow_share_bytes (K : Nat) (s0 : Array Value) (w : World) : Option ((Sl × Unit) × World) :=
  bnd (newB s0 55 w) fun p_1 w_2 =>
  (ldI .u16 ((p_1.add 0).add 0) w_2).bind fun v_3 =>
  (ldI .u16 ((p_1.add 0).add 0) w_2).bind fun v_4 =>
  (ldI .i64 ((p_1.add 0).add 1) w_2).bind fun v_5 =>
  (ldI .i64 ((p_1.add 0).add 2) w_2).bind fun v_6 =>
  (ldI .i64 ((p_1.add 0).add 3) w_2).bind fun v_7 =>
  bnd (bldS prog 25 5 #[(0, (.int .u8 (IntKind.u8.wrap (Int.fdiv v_3 (2 ^ 8))))), (1, (.int .u8 (IntKind.u8.wrap v_4))), (2, (.int .u8 (IntKind.u8.wrap v_5))), (3, (.int .u8 (IntKind.u8.wrap v_6))), (4, (.int .u8 (IntKind.u8.wrap v_7)))] w_2) fun s_8 w_9 =>
  (ldS (p_1.add 4) w_9).bind fun v_10 =>
  bnd (apd prog 25 25 (.slice s_8.a s_8.len s_8.cap) (.slice v_10.a v_10.len v_10.cap) w_9) fun s_11 w_12 =>
  if ((Int.tmod ((s_11.len : Nat) : Int) 2) == 1) = true then (bnd (bldS prog 25 1 #[(0, (.int .u8 0))] w_12) fun s_13 w_14 =>
  bnd (apd prog 25 25 (.slice s_11.a s_11.len s_11.cap) (.slice s_13.a s_13.len s_13.cap) w_14) fun s_15 w_16 =>
  bnd (escrow_coded K s_15 w_16) fun r_17 w_18 =>
  some ((r_17.1, ()), w_18)) else (bnd (escrow_coded K s_11 w_12) fun r_19 w_20 =>
  some ((r_19.1, ()), w_20))
theorem escrow_share_bytes_facts : FunFacts prog 35 f35 (bodyOf f35) [(0, .agg)] [(0, 38)] := ⟨func35, by kernel_rfl, by kernel_rfl, by kernel_rfl, by kernel_rfl, by kernel_rfl⟩
theorem escrow_share_bytes_calls (K : Nat) (x : TT [(0, .agg)]) (w : World) (y : TR [.sl]) (w2 : World) (h : escrow_share_bytes K x.1 w = some (y, w2)) : Calls prog 35 (encA [(0, .agg)] x).toArray w (fun e w3 => e = .returned (resV (encR [.sl] y)) ∧ w3 = w2) :=
    mk_fun (O := tabL []) (Lp := [(0, .agg)]) (Rt := [.sl]) (S := (fun x w => escrow_share_bytes K x.1 w)) (escrow_share_bytes_Eok K) (escrow_share_bytes_Rok K) rfl escrow_share_bytes_facts (Orc.nil _ _ _) (fun _ _ => by kernel_rfl) x w y w2 h
noncomputable def escrow_share_bytes_ce (K : Nat) : CE := funE [(0, .agg)] [.sl] (fun x w => escrow_share_bytes K x.1 w)
theorem escrow_share_bytes_ok (K : Nat) : (escrow_share_bytes_ce K).Ok prog 35 := funE_ok (Rt := [.sl]) (S := (fun x w => escrow_share_bytes K x.1 w)) escrow_share_bytes_facts fun x w y w2 h => escrow_share_bytes_calls K x w y w2 h

noncomputable def escrow_share_text_E (K : Nat) : List (Nat × CE) := [(35, escrow_share_bytes_ce K), (11, escrow_Words_ce K)]
theorem escrow_share_text_Eok (K : Nat) : Env.Ok prog (tab (escrow_share_text_E K)) := (Env.cons (escrow_share_bytes_ok K) (Env.cons (escrow_Words_ok K) (Env.nil _)))
noncomputable def escrow_share_text_R (K : Nat) : List (Nat × RE) := []
theorem escrow_share_text_Rok (K : Nat) : REnv.Ok prog (tab (escrow_share_text_R K)) := (REnv.nil _)
/-- (coffer/escrow.share).text -/
noncomputable def escrow_share_text (K : Nat) (s0 : Array Value) (w : World) : Option ((ByteArray × Unit) × World) :=
  bnd (newB s0 55 w) fun p_1 w_2 =>
  (ldA 5 p_1 w_2).bind fun v_3 =>
  bnd (escrow_share_bytes K v_3 w_2) fun r_4 w_5 =>
  bnd (escrow_Words K r_4.1 w_5) fun r_6 w_7 =>
  some ((r_6.1, ()), w_7)
theorem escrow_share_text_facts : FunFacts prog 25 f25 (bodyOf f25) [(0, .agg)] [(0, 6)] := ⟨func25, by kernel_rfl, by kernel_rfl, by kernel_rfl, by kernel_rfl, by kernel_rfl⟩
theorem escrow_share_text_calls (K : Nat) (x : TT [(0, .agg)]) (w : World) (y : TR [.str]) (w2 : World) (h : escrow_share_text K x.1 w = some (y, w2)) : Calls prog 25 (encA [(0, .agg)] x).toArray w (fun e w3 => e = .returned (resV (encR [.str] y)) ∧ w3 = w2) :=
    mk_fun (O := tabL []) (Lp := [(0, .agg)]) (Rt := [.str]) (S := (fun x w => escrow_share_text K x.1 w)) (escrow_share_text_Eok K) (escrow_share_text_Rok K) rfl escrow_share_text_facts (Orc.nil _ _ _) (fun _ _ => by kernel_rfl) x w y w2 h
noncomputable def escrow_share_text_ce (K : Nat) : CE := funE [(0, .agg)] [.str] (fun x w => escrow_share_text K x.1 w)
theorem escrow_share_text_ok (K : Nat) : (escrow_share_text_ce K).Ok prog 25 := funE_ok (Rt := [.str]) (S := (fun x w => escrow_share_text K x.1 w)) escrow_share_text_facts fun x w y w2 h => escrow_share_text_calls K x w y w2 h

noncomputable def escrow_summed_E (K : Nat) : List (Nat × CE) := []
theorem escrow_summed_Eok (K : Nat) : Env.Ok prog (tab (escrow_summed_E K)) := (Env.nil _)
noncomputable def escrow_summed_R (K : Nat) : List (Nat × RE) := [(43, escrow_power_re K), (41, rijndael_Times_re K)]
theorem escrow_summed_Rok (K : Nat) : REnv.Ok prog (tab (escrow_summed_R K)) := (REnv.cons (escrow_power_ok K) (REnv.cons (rijndael_Times_ok K) (REnv.nil _)))
noncomputable def escrow_summed_l1_b (K : Nat) (rec : Sl → Addr → Addr → Int → Int → Int → Sl → Int → Int → World → Option ((Unit) × World)) (b0 : Sl) (a2 : Addr) (s3 : Addr) (j4 : Int) (x5 : Int) (a8 : Int) (a13 : Sl) (a14 : Int) (a15 : Int) (w : World) : Option ((Unit) × World) :=
  if (decide (a15 < a14)) = true then ((a13.a).bind fun p_6 =>
  if (0 : Int) ≤ a15 ∧ a15 < ((a13.len : Nat) : Int) then ((ldI .u8 (p_6.add ((Int.toNat a15) * 1)) w).bind fun v_7 =>
  if (0 : Int) ≤ j4 ∧ j4 < ((4 : Nat) : Int) then ((ldI .u8 (s3.add ((Int.toNat j4) * 1)) w).bind fun v_8 =>
  (rijndael_Times K v_8 x5).bind fun r_9 =>
  if (0 : Int) ≤ j4 ∧ j4 < ((4 : Nat) : Int) then ((stC (s3.add ((Int.toNat j4) * 1)) (.int .u8 (bits .xor .u8 r_9.1 v_7)) w).bind fun w_10 =>
  rec b0 a2 s3 j4 x5 a8 a13 a14 (IntKind.i64.wrap (a15 + 1)) w_10) else none) else none) else none) else (some ((), w))
noncomputable def escrow_summed_l1 (K : Nat) (n : Nat) : Sl → Addr → Addr → Int → Int → Int → Sl → Int → Int → World → Option ((Unit) × World) := iter (fun _ _ _ _ _ _ _ _ _ _ => none) (escrow_summed_l1_b K) n
noncomputable def escrow_summed_l0_b (K : Nat) (rec : Sl → Addr → Addr → Int → World → Option ((Unit) × World)) (b0 : Sl) (a2 : Addr) (s3 : Addr) (a8 : Int) (w : World) : Option ((Unit) × World) :=
  if (decide (a8 < 4)) = true then ((escrow_power K a8).bind fun r_5 =>
  bnd (escrow_summed_l1 K K b0 a2 s3 a8 r_5.1 a8 b0 ((b0.len : Nat) : Int) 0 w) fun y_11 w_12 =>
  rec b0 a2 s3 (IntKind.i64.wrap (a8 + 1)) w_12) else (some ((), w))
noncomputable def escrow_summed_l0 (K : Nat) (n : Nat) : Sl → Addr → Addr → Int → World → Option ((Unit) × World) := iter (fun _ _ _ _ _ => none) (escrow_summed_l0_b K) n
/-- coffer/escrow.summed -/
noncomputable def escrow_summed (K : Nat) (b0 : Sl) (w : World) : Option (((Array Value) × Unit) × World) :=
  bnd (newB z71 71 w) fun p_1 w_2 =>
  bnd (newB z71 71 w_2) fun s_3 w_4 =>
  bnd (escrow_summed_l0 K K b0 p_1 s_3 0 w_4) fun y_13 w_14 =>
  (ldA 4 s_3 w_14).bind fun v_15 =>
  if (v_15).size = 4 then ((stA p_1 v_15 w_14).bind fun w_16 =>
  (ldA 4 p_1 w_16).bind fun res_17 =>
  some ((res_17, ()), w_16)) else none
theorem escrow_summed_l1_ok (K : Nat) (n : Nat) : StmtNOk prog [(0, .sl), (2, .addr), (3, .addr), (4, .int .i64), (5, .int .u8), (8, .int .i64), (13, .sl), (14, .int .i64), (15, .int .i64)] [] [(7, 8), (15, 29)] ((fun n x w => escrow_summed_l1 K n x.1 x.2.1 x.2.2.1 x.2.2.2.1 x.2.2.2.2.1 x.2.2.2.2.2.1 x.2.2.2.2.2.2.1 x.2.2.2.2.2.2.2.1 x.2.2.2.2.2.2.2.2.1 w) n) (.block 2 (.loop (cd (bodyOf f40) [1, 1, 0, 1, 0, 0, 1, 1, 0, 0, 1, 1, 1, 0, 0]))) :=
    mk_loopN (O := tabL []) (root := (bodyOf f40)) (π := [1, 1, 0, 1, 0, 0, 1, 1, 0, 0, 1, 1, 1, 0, 0]) (id := 2) (Li := [(0, .sl), (2, .addr), (3, .addr), (4, .int .i64), (5, .int .u8), (8, .int .i64), (13, .sl), (14, .int .i64), (15, .int .i64)]) (Lo := []) (S := (fun n x w => escrow_summed_l1 K n x.1 x.2.1 x.2.2.1 x.2.2.2.1 x.2.2.2.2.1 x.2.2.2.2.2.1 x.2.2.2.2.2.2.1 x.2.2.2.2.2.2.2.1 x.2.2.2.2.2.2.2.2.1 w)) (body := cd (bodyOf f40) [1, 1, 0, 1, 0, 0, 1, 1, 0, 0, 1, 1, 1, 0, 0]) (escrow_summed_Eok K) (escrow_summed_Rok K) rfl (Orc.nil _ _ _) (by kernel_rfl) (fun _ _ => by kernel_rfl) (fun _ _ _ => by kernel_rfl) n
noncomputable def escrow_summed_l1_se (K : Nat) : SE := stmtN [(0, .sl), (2, .addr), (3, .addr), (4, .int .i64), (5, .int .u8), (8, .int .i64), (13, .sl), (14, .int .i64), (15, .int .i64)] [] [(7, 8), (15, 29)] (fun x w => escrow_summed_l1 K K x.1 x.2.1 x.2.2.1 x.2.2.2.1 x.2.2.2.2.1 x.2.2.2.2.2.1 x.2.2.2.2.2.2.1 x.2.2.2.2.2.2.2.1 x.2.2.2.2.2.2.2.2.1 w)
theorem escrow_summed_l1_se_ok (K : Nat) (R : Rg) (h : subRB [(7, 8), (15, 29)] R = true) : (escrow_summed_l1_se K).Ok prog R (.block 2 (.loop (cd (bodyOf f40) [1, 1, 0, 1, 0, 0, 1, 1, 0, 0, 1, 1, 1, 0, 0]))) := stmtN_ok (Li := [(0, .sl), (2, .addr), (3, .addr), (4, .int .i64), (5, .int .u8), (8, .int .i64), (13, .sl), (14, .int .i64), (15, .int .i64)]) (Lo := []) (S := (fun x w => escrow_summed_l1 K K x.1 x.2.1 x.2.2.1 x.2.2.2.1 x.2.2.2.2.1 x.2.2.2.2.2.1 x.2.2.2.2.2.2.1 x.2.2.2.2.2.2.2.1 x.2.2.2.2.2.2.2.2.1 w)) (escrow_summed_l1_ok K K) (subR_of h)
theorem escrow_summed_l0_ok (K : Nat) (n : Nat) : StmtNOk prog [(0, .sl), (2, .addr), (3, .addr), (8, .int .i64)] [] [(4, 6), (7, 30)] ((fun n x w => escrow_summed_l0 K n x.1 x.2.1 x.2.2.1 x.2.2.2.1 w) n) (.block 0 (.loop (cd (bodyOf f40) [1, 1, 0, 1, 0, 0]))) :=
    mk_loopN (O := tabL [([1, 1, 0, 1, 0, 0, 1, 1, 0, 0, 1, 1, 1], escrow_summed_l1_se K)]) (root := (bodyOf f40)) (π := [1, 1, 0, 1, 0, 0]) (id := 0) (Li := [(0, .sl), (2, .addr), (3, .addr), (8, .int .i64)]) (Lo := []) (S := (fun n x w => escrow_summed_l0 K n x.1 x.2.1 x.2.2.1 x.2.2.2.1 w)) (body := cd (bodyOf f40) [1, 1, 0, 1, 0, 0]) (escrow_summed_Eok K) (escrow_summed_Rok K) rfl (Orc.cons (by kernel_rfl) (escrow_summed_l1_se_ok K [(4, 6), (7, 30)] (by kernel_rfl)) (Orc.nil _ _ _)) (by kernel_rfl) (fun _ _ => by kernel_rfl) (fun _ _ _ => by kernel_rfl) n
noncomputable def escrow_summed_l0_se (K : Nat) : SE := stmtN [(0, .sl), (2, .addr), (3, .addr), (8, .int .i64)] [] [(4, 6), (7, 30)] (fun x w => escrow_summed_l0 K K x.1 x.2.1 x.2.2.1 x.2.2.2.1 w)
theorem escrow_summed_l0_se_ok (K : Nat) (R : Rg) (h : subRB [(4, 6), (7, 30)] R = true) : (escrow_summed_l0_se K).Ok prog R (.block 0 (.loop (cd (bodyOf f40) [1, 1, 0, 1, 0, 0]))) := stmtN_ok (Li := [(0, .sl), (2, .addr), (3, .addr), (8, .int .i64)]) (Lo := []) (S := (fun x w => escrow_summed_l0 K K x.1 x.2.1 x.2.2.1 x.2.2.2.1 w)) (escrow_summed_l0_ok K K) (subR_of h)
theorem escrow_summed_facts : FunFacts prog 40 f40 (bodyOf f40) [(0, .sl)] [(0, 31)] := ⟨func40, by kernel_rfl, by kernel_rfl, by kernel_rfl, by kernel_rfl, by kernel_rfl⟩
theorem escrow_summed_calls (K : Nat) (x : TT [(0, .sl)]) (w : World) (y : TR [.agg]) (w2 : World) (h : escrow_summed K x.1 w = some (y, w2)) : Calls prog 40 (encA [(0, .sl)] x).toArray w (fun e w3 => e = .returned (resV (encR [.agg] y)) ∧ w3 = w2) :=
    mk_fun (O := tabL [([1, 1, 0, 1], escrow_summed_l0_se K), ([1, 1, 0, 1, 0, 0, 1, 1, 0, 0, 1, 1, 1], escrow_summed_l1_se K)]) (Lp := [(0, .sl)]) (Rt := [.agg]) (S := (fun x w => escrow_summed K x.1 w)) (escrow_summed_Eok K) (escrow_summed_Rok K) rfl escrow_summed_facts (Orc.cons (by kernel_rfl) (escrow_summed_l0_se_ok K [(0, 31)] (by kernel_rfl)) (Orc.cons (by kernel_rfl) (escrow_summed_l1_se_ok K [(0, 31)] (by kernel_rfl)) (Orc.nil _ _ _))) (fun _ _ => by kernel_rfl) x w y w2 h
noncomputable def escrow_summed_ce (K : Nat) : CE := funE [(0, .sl)] [.agg] (fun x w => escrow_summed K x.1 w)
theorem escrow_summed_ok (K : Nat) : (escrow_summed_ce K).Ok prog 40 := funE_ok (Rt := [.agg]) (S := (fun x w => escrow_summed K x.1 w)) escrow_summed_facts fun x w y w2 h => escrow_summed_calls K x w y w2 h

noncomputable def escrow_inverse_R (K : Nat) : List (Nat × RE) := [(41, rijndael_Times_re K)]
theorem escrow_inverse_Rok (K : Nat) : REnv.Ok prog (tab (escrow_inverse_R K)) := (REnv.cons (rijndael_Times_ok K) (REnv.nil _))
noncomputable def escrow_inverse_l0_b (K : Nat) (rec : Int → Int → Int → Option (Out (Int × Unit) (Int × Unit))) (b0 : Int) (v3 : Int) (a4 : Int) : Option (Out (Int × Unit) (Int × Unit)) :=
  if (decide (a4 < 7)) = true then ((rijndael_Times K b0 b0).bind fun r_1 =>
  (rijndael_Times K v3 r_1.1).bind fun r_2 =>
  rec r_1.1 r_2.1 (IntKind.i64.wrap (a4 + 1))) else (some (.norm (v3, ())))
noncomputable def escrow_inverse_l0 (K : Nat) (n : Nat) : Int → Int → Int → Option (Out (Int × Unit) (Int × Unit)) := iter (fun _ _ _ => none) (escrow_inverse_l0_b K) n
/-- coffer/escrow.inverse -/
noncomputable def escrow_inverse (K : Nat) (b0 : Int) : Option (Int × Unit) :=
  (escrow_inverse_l0 K K b0 1 0).bind fun y_3 =>
  (match y_3 with
  | .norm z_4n => (some (z_4n.1, ()))
  | .ret z_4r => (some (z_4r.1, ())))
theorem escrow_inverse_l0_ok (K : Nat) (n : Nat) : StmtQOk prog [(0, .int .u8), (3, .int .u8), (4, .int .i64)] [(3, .int .u8)] [(2, .int .u8)] [(0, 1), (3, 13)] ((fun n x w => escrow_inverse_l0 K n x.1 x.2.1 x.2.2.1) n) (.block 0 (.loop (cd (bodyOf f47) [1, 1, 0, 1, 0, 0]))) :=
    mk_loopQ (O := tabL []) (root := (bodyOf f47)) (π := [1, 1, 0, 1, 0, 0]) (id := 0) (Li := [(0, .int .u8), (3, .int .u8), (4, .int .i64)]) (Lo := [(3, .int .u8)]) (Lr := [(2, .int .u8)]) (S := (fun n x w => escrow_inverse_l0 K n x.1 x.2.1 x.2.2.1)) (body := cd (bodyOf f47) [1, 1, 0, 1, 0, 0]) (escrow_inverse_Rok K) (OrcQ.nil _ _ _) (by kernel_rfl) (fun _ _ => by kernel_rfl) (fun _ _ _ => by kernel_rfl) n
noncomputable def escrow_inverse_l0_se (K : Nat) : SQ := stmtQ [(0, .int .u8), (3, .int .u8), (4, .int .i64)] [(3, .int .u8)] [(2, .int .u8)] [(0, 1), (3, 13)] (fun x w => escrow_inverse_l0 K K x.1 x.2.1 x.2.2.1)
theorem escrow_inverse_l0_se_ok (K : Nat) (R : Rg) (h : subRB [(0, 1), (3, 13)] R = true) : (escrow_inverse_l0_se K).Ok prog R (.block 0 (.loop (cd (bodyOf f47) [1, 1, 0, 1, 0, 0]))) := stmtQ_ok (Li := [(0, .int .u8), (3, .int .u8), (4, .int .i64)]) (Lo := [(3, .int .u8)]) (Lr := [(2, .int .u8)]) (S := (fun x w => escrow_inverse_l0 K K x.1 x.2.1 x.2.2.1)) (escrow_inverse_l0_ok K K) (subR_of h)
theorem escrow_inverse_facts : FunFacts prog 47 f47 (bodyOf f47) [(0, .int .u8)] [(0, 14)] := ⟨func47, by kernel_rfl, by kernel_rfl, by kernel_rfl, by kernel_rfl, by kernel_rfl⟩
theorem escrow_inverse_calls (K : Nat) (x : TT [(0, .int .u8)]) (w : World) (y : TR [.int .u8]) (h : escrow_inverse K x.1 = some y) : Calls prog 47 (encA [(0, .int .u8)] x).toArray w (fun e w3 => e = .returned (resV (encR [.int .u8] y)) ∧ w3 = w) :=
    mk_funQ (O := tabL [([1, 1, 0, 1], escrow_inverse_l0_se K)]) (Lp := [(0, .int .u8)]) (Rt := [.int .u8]) (S := (fun x w => escrow_inverse K x.1)) (escrow_inverse_Rok K) escrow_inverse_facts (OrcQ.cons (by kernel_rfl) (escrow_inverse_l0_se_ok K [(0, 14)] (by kernel_rfl)) (OrcQ.nil _ _ _)) (fun _ _ => by kernel_rfl) x w y h
noncomputable def escrow_inverse_re (K : Nat) : RE := funR [(0, .int .u8)] [.int .u8] (fun x w => escrow_inverse K x.1)
theorem escrow_inverse_ok (K : Nat) : (escrow_inverse_re K).Ok prog 47 := funR_ok (Rt := [.int .u8]) (S := (fun x w => escrow_inverse K x.1)) escrow_inverse_facts fun x w y h => escrow_inverse_calls K x w y h

noncomputable def escrow_over_R (K : Nat) : List (Nat × RE) := [(47, escrow_inverse_re K), (41, rijndael_Times_re K)]
theorem escrow_over_Rok (K : Nat) : REnv.Ok prog (tab (escrow_over_R K)) := (REnv.cons (escrow_inverse_ok K) (REnv.cons (rijndael_Times_ok K) (REnv.nil _)))
/-- coffer/escrow.over -/
noncomputable def escrow_over (K : Nat) (a0 : Int) (b1 : Int) : Option (Int × Unit) :=
  (escrow_inverse K b1).bind fun r_1 =>
  (rijndael_Times K a0 r_1.1).bind fun r_2 =>
  some (r_2.1, ())
theorem escrow_over_facts : FunFacts prog 42 f42 (bodyOf f42) [(0, .int .u8), (1, .int .u8)] [(0, 9)] := ⟨func42, by kernel_rfl, by kernel_rfl, by kernel_rfl, by kernel_rfl, by kernel_rfl⟩
theorem escrow_over_calls (K : Nat) (x : TT [(0, .int .u8), (1, .int .u8)]) (w : World) (y : TR [.int .u8]) (h : escrow_over K x.1 x.2.1 = some y) : Calls prog 42 (encA [(0, .int .u8), (1, .int .u8)] x).toArray w (fun e w3 => e = .returned (resV (encR [.int .u8] y)) ∧ w3 = w) :=
    mk_funQ (O := tabL []) (Lp := [(0, .int .u8), (1, .int .u8)]) (Rt := [.int .u8]) (S := (fun x w => escrow_over K x.1 x.2.1)) (escrow_over_Rok K) escrow_over_facts (OrcQ.nil _ _ _) (fun _ _ => by kernel_rfl) x w y h
noncomputable def escrow_over_re (K : Nat) : RE := funR [(0, .int .u8), (1, .int .u8)] [.int .u8] (fun x w => escrow_over K x.1 x.2.1)
theorem escrow_over_ok (K : Nat) : (escrow_over_re K).Ok prog 42 := funR_ok (Rt := [.int .u8]) (S := (fun x w => escrow_over K x.1 x.2.1)) escrow_over_facts fun x w y h => escrow_over_calls K x w y h

end Go.Sh
