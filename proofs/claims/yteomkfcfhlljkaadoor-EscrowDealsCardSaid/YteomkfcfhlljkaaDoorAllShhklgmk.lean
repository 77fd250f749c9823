/- Texts of this claim, put together: Sh2, Sh3 -/
import Derived.Test.YteomkfcfhlljkaaDoorAllShdkjgca
/- What functions of the program do, as Lean functions; that the machine does just that. Printed by shal.py, a program of this claim's writer. -/
set_option maxRecDepth 100000
set_option linter.unusedVariables false
namespace Go.Sh
open Go.Fw Go.Proofs.Tryd

noncomputable def ref11_Sums_E (K : Nat) : List (Nat × CE) := [(104, ref11_Powers_ce K)]
theorem ref11_Sums_Eok (K : Nat) : Env.Ok prog (tab (ref11_Sums_E K)) := (Env.cons (ref11_Powers_ok K) (Env.nil _))
noncomputable def ref11_Sums_R (K : Nat) : List (Nat × RE) := [(76, ref11_times_re K)]
theorem ref11_Sums_Rok (K : Nat) : REnv.Ok prog (tab (ref11_Sums_R K)) := (REnv.cons (ref11_times_ok K) (REnv.nil _))
noncomputable def ref11_Sums_l1_b (K : Nat) (rec : Sl → Addr → Addr → Sl → Int → Int → Int → World → Option ((Unit) × World)) (b0 : Sl) (a2 : Addr) (s3 : Addr) (p4 : Sl) (n5 : Int) (i6 : Int) (j7 : Int) (w : World) : Option ((Unit) × World) :=
  if (decide (j7 < 4)) = true then (if (0 : Int) ≤ j7 ∧ j7 < ((4 : Nat) : Int) then ((b0.a).bind fun p_7 =>
  if (0 : Int) ≤ i6 ∧ i6 < ((b0.len : Nat) : Int) then ((p4.a).bind fun p_8 =>
  if (0 : Int) ≤ (Int.tmod (IntKind.i64.wrap (j7 * (IntKind.i64.wrap ((IntKind.i64.wrap (n5 - 1)) - i6)))) 255) ∧ (Int.tmod (IntKind.i64.wrap (j7 * (IntKind.i64.wrap ((IntKind.i64.wrap (n5 - 1)) - i6)))) 255) < ((p4.len : Nat) : Int) then ((ldI .u8 (s3.add ((Int.toNat j7) * 1)) w.drew).bind fun v_9 =>
  (ldI .u8 (p_7.add ((Int.toNat i6) * 1)) w.drew).bind fun v_10 =>
  (ldI .u8 (p_8.add ((Int.toNat (Int.tmod (IntKind.i64.wrap (j7 * (IntKind.i64.wrap ((IntKind.i64.wrap (n5 - 1)) - i6)))) 255)) * 1)) w.drew).bind fun v_11 =>
  (ref11_times K v_10 v_11).bind fun r_12 =>
  if (0 : Int) ≤ j7 ∧ j7 < ((4 : Nat) : Int) then ((stC (s3.add ((Int.toNat j7) * 1)) (.int .u8 (bits .xor .u8 v_9 r_12.1)) w.drew).bind fun w_13 =>
  rec b0 a2 s3 p4 n5 i6 (IntKind.i64.wrap (j7 + 1)) w_13) else none) else none) else none) else none) else (some ((), w))
noncomputable def ref11_Sums_l1 (K : Nat) (n : Nat) : Sl → Addr → Addr → Sl → Int → Int → Int → World → Option ((Unit) × World) := iter (fun _ _ _ _ _ _ _ _ => none) (ref11_Sums_l1_b K) n
noncomputable def ref11_Sums_l0_b (K : Nat) (rec : Sl → Addr → Addr → Sl → Int → Int → World → Option ((Unit) × World)) (b0 : Sl) (a2 : Addr) (s3 : Addr) (p4 : Sl) (n5 : Int) (i6 : Int) (w : World) : Option ((Unit) × World) :=
  if (decide (i6 < n5)) = true then (bnd (ref11_Sums_l1 K K b0 a2 s3 p4 n5 i6 0 w) fun y_14 w_15 =>
  rec b0 a2 s3 p4 n5 (IntKind.i64.wrap (i6 + 1)) w_15) else (some ((), w))
noncomputable def ref11_Sums_l0 (K : Nat) (n : Nat) : Sl → Addr → Addr → Sl → Int → Int → World → Option ((Unit) × World) := iter (fun _ _ _ _ _ _ _ => none) (ref11_Sums_l0_b K) n
/-- coffer/cofferref11.Sums -/
noncomputable def ref11_Sums (K : Nat) (b0 : Sl) (w : World) : Option (((Array Value) × Unit) × World) :=
  bnd (newB z153 153 w) fun p_1 w_2 =>
  bnd (newB z153 153 w_2) fun s_3 w_4 =>
  bnd (ref11_Powers K 255 w_4) fun r_5 w_6 =>
  bnd (ref11_Sums_l0 K K b0 p_1 s_3 r_5.1 ((b0.len : Nat) : Int) 0 w_6) fun y_16 w_17 =>
  (ldA 4 s_3 w_17).bind fun v_18 =>
  if (v_18).size = 4 then ((stA p_1 v_18 w_17).bind fun w_19 =>
  (ldA 4 p_1 w_19).bind fun res_20 =>
  some ((res_20, ()), w_19)) else none
theorem ref11_Sums_l1_ok (K : Nat) (n : Nat) : StmtNOk prog [(0, .sl), (2, .addr), (3, .addr), (4, .sl), (5, .int .i64), (6, .int .i64), (7, .int .i64)] [] [(7, 8), (16, 41)] ((fun n x w => ref11_Sums_l1 K n x.1 x.2.1 x.2.2.1 x.2.2.2.1 x.2.2.2.2.1 x.2.2.2.2.2.1 x.2.2.2.2.2.2.1 w) n) (.block 2 (.loop (cd (bodyOf f103) [1, 1, 1, 1, 0, 1, 0, 0, 1, 0, 0, 1, 0, 0]))) :=
    mk_loopN (O := tabL []) (root := (bodyOf f103)) (π := [1, 1, 1, 1, 0, 1, 0, 0, 1, 0, 0, 1, 0, 0]) (id := 2) (Li := [(0, .sl), (2, .addr), (3, .addr), (4, .sl), (5, .int .i64), (6, .int .i64), (7, .int .i64)]) (Lo := []) (S := (fun n x w => ref11_Sums_l1 K n x.1 x.2.1 x.2.2.1 x.2.2.2.1 x.2.2.2.2.1 x.2.2.2.2.2.1 x.2.2.2.2.2.2.1 w)) (body := cd (bodyOf f103) [1, 1, 1, 1, 0, 1, 0, 0, 1, 0, 0, 1, 0, 0]) (ref11_Sums_Eok K) (ref11_Sums_Rok K) rfl (Orc.nil _ _ _) (by kernel_rfl) (fun _ _ => by kernel_rfl) (fun _ _ _ => by kernel_rfl) n
noncomputable def ref11_Sums_l1_se (K : Nat) : SE := stmtN [(0, .sl), (2, .addr), (3, .addr), (4, .sl), (5, .int .i64), (6, .int .i64), (7, .int .i64)] [] [(7, 8), (16, 41)] (fun x w => ref11_Sums_l1 K K x.1 x.2.1 x.2.2.1 x.2.2.2.1 x.2.2.2.2.1 x.2.2.2.2.2.1 x.2.2.2.2.2.2.1 w)
theorem ref11_Sums_l1_se_ok (K : Nat) (R : Rg) (h : subRB [(7, 8), (16, 41)] R = true) : (ref11_Sums_l1_se K).Ok prog R (.block 2 (.loop (cd (bodyOf f103) [1, 1, 1, 1, 0, 1, 0, 0, 1, 0, 0, 1, 0, 0]))) := stmtN_ok (Li := [(0, .sl), (2, .addr), (3, .addr), (4, .sl), (5, .int .i64), (6, .int .i64), (7, .int .i64)]) (Lo := []) (S := (fun x w => ref11_Sums_l1 K K x.1 x.2.1 x.2.2.1 x.2.2.2.1 x.2.2.2.2.1 x.2.2.2.2.2.1 x.2.2.2.2.2.2.1 w)) (ref11_Sums_l1_ok K K) (subR_of h)
theorem ref11_Sums_l0_ok (K : Nat) (n : Nat) : StmtNOk prog [(0, .sl), (2, .addr), (3, .addr), (4, .sl), (5, .int .i64), (6, .int .i64)] [] [(6, 8), (11, 41)] ((fun n x w => ref11_Sums_l0 K n x.1 x.2.1 x.2.2.1 x.2.2.2.1 x.2.2.2.2.1 x.2.2.2.2.2.1 w) n) (.block 0 (.loop (cd (bodyOf f103) [1, 1, 1, 1, 0, 1, 0, 0]))) :=
    mk_loopN (O := tabL [([1, 1, 1, 1, 0, 1, 0, 0, 1, 0, 0, 1], ref11_Sums_l1_se K)]) (root := (bodyOf f103)) (π := [1, 1, 1, 1, 0, 1, 0, 0]) (id := 0) (Li := [(0, .sl), (2, .addr), (3, .addr), (4, .sl), (5, .int .i64), (6, .int .i64)]) (Lo := []) (S := (fun n x w => ref11_Sums_l0 K n x.1 x.2.1 x.2.2.1 x.2.2.2.1 x.2.2.2.2.1 x.2.2.2.2.2.1 w)) (body := cd (bodyOf f103) [1, 1, 1, 1, 0, 1, 0, 0]) (ref11_Sums_Eok K) (ref11_Sums_Rok K) rfl (Orc.cons (by kernel_rfl) (ref11_Sums_l1_se_ok K [(6, 8), (11, 41)] (by kernel_rfl)) (Orc.nil _ _ _)) (by kernel_rfl) (fun _ _ => by kernel_rfl) (fun _ _ _ => by kernel_rfl) n
noncomputable def ref11_Sums_l0_se (K : Nat) : SE := stmtN [(0, .sl), (2, .addr), (3, .addr), (4, .sl), (5, .int .i64), (6, .int .i64)] [] [(6, 8), (11, 41)] (fun x w => ref11_Sums_l0 K K x.1 x.2.1 x.2.2.1 x.2.2.2.1 x.2.2.2.2.1 x.2.2.2.2.2.1 w)
theorem ref11_Sums_l0_se_ok (K : Nat) (R : Rg) (h : subRB [(6, 8), (11, 41)] R = true) : (ref11_Sums_l0_se K).Ok prog R (.block 0 (.loop (cd (bodyOf f103) [1, 1, 1, 1, 0, 1, 0, 0]))) := stmtN_ok (Li := [(0, .sl), (2, .addr), (3, .addr), (4, .sl), (5, .int .i64), (6, .int .i64)]) (Lo := []) (S := (fun x w => ref11_Sums_l0 K K x.1 x.2.1 x.2.2.1 x.2.2.2.1 x.2.2.2.2.1 x.2.2.2.2.2.1 w)) (ref11_Sums_l0_ok K K) (subR_of h)
theorem ref11_Sums_facts : FunFacts prog 103 f103 (bodyOf f103) [(0, .sl)] [(0, 42)] := ⟨func103, by kernel_rfl, by kernel_rfl, by kernel_rfl, by kernel_rfl, by kernel_rfl⟩
theorem ref11_Sums_calls (K : Nat) (x : TT [(0, .sl)]) (w : World) (y : TR [.agg]) (w2 : World) (h : ref11_Sums K x.1 w = some (y, w2)) : Calls prog 103 (encA [(0, .sl)] x).toArray w (fun e w3 => e = .returned (resV (encR [.agg] y)) ∧ w3 = w2) :=
    mk_fun (O := tabL [([1, 1, 1, 1, 0, 1], ref11_Sums_l0_se K), ([1, 1, 1, 1, 0, 1, 0, 0, 1, 0, 0, 1], ref11_Sums_l1_se K)]) (Lp := [(0, .sl)]) (Rt := [.agg]) (S := (fun x w => ref11_Sums K x.1 w)) (ref11_Sums_Eok K) (ref11_Sums_Rok K) rfl ref11_Sums_facts (Orc.cons (by kernel_rfl) (ref11_Sums_l0_se_ok K [(0, 42)] (by kernel_rfl)) (Orc.cons (by kernel_rfl) (ref11_Sums_l1_se_ok K [(0, 42)] (by kernel_rfl)) (Orc.nil _ _ _))) (fun _ _ => by kernel_rfl) x w y w2 h
noncomputable def ref11_Sums_ce (K : Nat) : CE := funE [(0, .sl)] [.agg] (fun x w => ref11_Sums K x.1 w)
theorem ref11_Sums_ok (K : Nat) : (ref11_Sums_ce K).Ok prog 103 := funE_ok (Rt := [.agg]) (S := (fun x w => ref11_Sums K x.1 w)) ref11_Sums_facts fun x w y w2 h => ref11_Sums_calls K x w y w2 h

noncomputable def ref11_over_R (K : Nat) : List (Nat × RE) := [(76, ref11_times_re K)]
theorem ref11_over_Rok (K : Nat) : REnv.Ok prog (tab (ref11_over_R K)) := (REnv.cons (ref11_times_ok K) (REnv.nil _))
noncomputable def ref11_over_l0_b (K : Nat) (rec : Int → Int → Int → Option (Out (Unit) (Int × Unit))) (a0 : Int) (b1 : Int) (v5 : Int) : Option (Out (Unit) (Int × Unit)) :=
  if (decide (v5 < 256)) = true then ((ref11_times K (IntKind.u8.wrap v5) b1).bind fun r_1 =>
  if (r_1.1 == a0) = true then (some (.ret ((IntKind.u8.wrap v5), ()))) else (rec a0 b1 (IntKind.i64.wrap (v5 + 1)))) else (some (.norm ()))
noncomputable def ref11_over_l0 (K : Nat) (n : Nat) : Int → Int → Int → Option (Out (Unit) (Int × Unit)) := iter (fun _ _ _ => none) (ref11_over_l0_b K) n
/-- coffer/cofferref11.over -/
noncomputable def ref11_over (K : Nat) (a0 : Int) (b1 : Int) : Option (Int × Unit) :=
  (ref11_over_l0 K K a0 b1 0).bind fun y_2 =>
  (match y_2 with
  | .norm z_3n => (some (0, ()))
  | .ret z_3r => (some (z_3r.1, ())))
theorem ref11_over_l0_ok (K : Nat) (n : Nat) : StmtQOk prog [(0, .int .u8), (1, .int .u8), (5, .int .i64)] [] [(4, .int .u8)] [(4, 18)] ((fun n x w => ref11_over_l0 K n x.1 x.2.1 x.2.2.1) n) (.block 0 (.loop (cd (bodyOf f112) [1, 0, 1, 0, 0]))) :=
    mk_loopQ (O := tabL []) (root := (bodyOf f112)) (π := [1, 0, 1, 0, 0]) (id := 0) (Li := [(0, .int .u8), (1, .int .u8), (5, .int .i64)]) (Lo := []) (Lr := [(4, .int .u8)]) (S := (fun n x w => ref11_over_l0 K n x.1 x.2.1 x.2.2.1)) (body := cd (bodyOf f112) [1, 0, 1, 0, 0]) (ref11_over_Rok K) (OrcQ.nil _ _ _) (by kernel_rfl) (fun _ _ => by kernel_rfl) (fun _ _ _ => by kernel_rfl) n
noncomputable def ref11_over_l0_se (K : Nat) : SQ := stmtQ [(0, .int .u8), (1, .int .u8), (5, .int .i64)] [] [(4, .int .u8)] [(4, 18)] (fun x w => ref11_over_l0 K K x.1 x.2.1 x.2.2.1)
theorem ref11_over_l0_se_ok (K : Nat) (R : Rg) (h : subRB [(4, 18)] R = true) : (ref11_over_l0_se K).Ok prog R (.block 0 (.loop (cd (bodyOf f112) [1, 0, 1, 0, 0]))) := stmtQ_ok (Li := [(0, .int .u8), (1, .int .u8), (5, .int .i64)]) (Lo := []) (Lr := [(4, .int .u8)]) (S := (fun x w => ref11_over_l0 K K x.1 x.2.1 x.2.2.1)) (ref11_over_l0_ok K K) (subR_of h)
theorem ref11_over_facts : FunFacts prog 112 f112 (bodyOf f112) [(0, .int .u8), (1, .int .u8)] [(0, 18)] := ⟨func112, by kernel_rfl, by kernel_rfl, by kernel_rfl, by kernel_rfl, by kernel_rfl⟩
theorem ref11_over_calls (K : Nat) (x : TT [(0, .int .u8), (1, .int .u8)]) (w : World) (y : TR [.int .u8]) (h : ref11_over K x.1 x.2.1 = some y) : Calls prog 112 (encA [(0, .int .u8), (1, .int .u8)] x).toArray w (fun e w3 => e = .returned (resV (encR [.int .u8] y)) ∧ w3 = w) :=
    mk_funQ (O := tabL [([1, 0, 1], ref11_over_l0_se K)]) (Lp := [(0, .int .u8), (1, .int .u8)]) (Rt := [.int .u8]) (S := (fun x w => ref11_over K x.1 x.2.1)) (ref11_over_Rok K) ref11_over_facts (OrcQ.cons (by kernel_rfl) (ref11_over_l0_se_ok K [(0, 18)] (by kernel_rfl)) (OrcQ.nil _ _ _)) (fun _ _ => by kernel_rfl) x w y h
noncomputable def ref11_over_re (K : Nat) : RE := funR [(0, .int .u8), (1, .int .u8)] [.int .u8] (fun x w => ref11_over K x.1 x.2.1)
theorem ref11_over_ok (K : Nat) : (ref11_over_re K).Ok prog 112 := funR_ok (Rt := [.int .u8]) (S := (fun x w => ref11_over K x.1 x.2.1)) ref11_over_facts fun x w y h => ref11_over_calls K x w y h

noncomputable def ref11_Solve_E (K : Nat) : List (Nat × CE) := []
theorem ref11_Solve_Eok (K : Nat) : Env.Ok prog (tab (ref11_Solve_E K)) := (Env.nil _)
noncomputable def ref11_Solve_R (K : Nat) : List (Nat × RE) := [(112, ref11_over_re K), (76, ref11_times_re K)]
theorem ref11_Solve_Rok (K : Nat) : REnv.Ok prog (tab (ref11_Solve_R K)) := (REnv.cons (ref11_over_ok K) (REnv.cons (ref11_times_ok K) (REnv.nil _)))
noncomputable def ref11_Solve_l0_b (K : Nat) (rec : Sl → Int → Sl → Int → World → Option ((Sl × Unit) × World)) (m0 : Sl) (n4 : Int) (rows5 : Sl) (i6 : Int) (w : World) : Option ((Sl × Unit) × World) :=
  if (decide (i6 < ((m0.len : Nat) : Int))) = true then (bnd (bldS prog 23 0 #[] w) fun s_3 w_4 =>
  (m0.a).bind fun p_5 =>
  if (0 : Int) ≤ i6 ∧ i6 < ((m0.len : Nat) : Int) then ((ldS (p_5.add ((Int.toNat i6) * 1)) w_4).bind fun v_6 =>
  bnd (apd prog 23 23 (.slice s_3.a s_3.len s_3.cap) (.slice v_6.a v_6.len v_6.cap) w_4) fun s_7 w_8 =>
  bnd (bldS prog 67 1 #[(0, (.slice s_7.a s_7.len s_7.cap))] w_8) fun s_9 w_10 =>
  bnd (apd prog 67 67 (.slice rows5.a rows5.len rows5.cap) (.slice s_9.a s_9.len s_9.cap) w_10) fun s_11 w_12 =>
  rec m0 n4 s_11 (IntKind.i64.wrap (i6 + 1)) w_12) else none) else (some ((rows5, ()), w))
noncomputable def ref11_Solve_l0 (K : Nat) (n : Nat) : Sl → Int → Sl → Int → World → Option ((Sl × Unit) × World) := iter (fun _ _ _ _ _ => none) (ref11_Solve_l0_b K) n
noncomputable def ref11_Solve_s3 (K : Nat) (rows5 : Sl) (at9 : Int) (i10 : Int) (w : World) : Option ((Bool × Unit) × World) :=
  if (decide (i10 < ((rows5.len : Nat) : Int))) = true then (some (((decide (at9 < 0)), ()), w)) else (some ((false, ()), w))
noncomputable def ref11_Solve_l2_b (K : Nat) (rec : Int → Sl → Sl → Int → Int → Int → World → Option ((Int × Unit) × World)) (n4 : Int) (rows5 : Sl) (x7 : Sl) (c8 : Int) (at9 : Int) (i10 : Int) (w : World) : Option ((Int × Unit) × World) :=
  bnd (ref11_Solve_s3 K rows5 at9 i10 w) fun y_19 w_20 =>
  if y_19.1 = true then ((rows5.a).bind fun p_21 =>
  if (0 : Int) ≤ i10 ∧ i10 < ((rows5.len : Nat) : Int) then ((ldS (p_21.add ((Int.toNat i10) * 1)) w_20).bind fun v_22 =>
  (v_22.a).bind fun p_23 =>
  if (0 : Int) ≤ c8 ∧ c8 < ((v_22.len : Nat) : Int) then ((ldI .u8 (p_23.add ((Int.toNat c8) * 1)) w_20).bind fun v_24 =>
  if (v_24 != 0) = true then (rec n4 rows5 x7 c8 i10 (IntKind.i64.wrap (i10 + 1)) w_20) else (rec n4 rows5 x7 c8 at9 (IntKind.i64.wrap (i10 + 1)) w_20)) else none) else none) else (some ((at9, ()), w_20))
noncomputable def ref11_Solve_l2 (K : Nat) (n : Nat) : Int → Sl → Sl → Int → Int → Int → World → Option ((Int × Unit) × World) := iter (fun _ _ _ _ _ _ _ => none) (ref11_Solve_l2_b K) n
noncomputable def ref11_Solve_l4_b (K : Nat) (rec : Int → Sl → Sl → Int → Int → Int → World → Option ((Unit) × World)) (n4 : Int) (rows5 : Sl) (x7 : Sl) (c8 : Int) (by11 : Int) (k12 : Int) (w : World) : Option ((Unit) × World) :=
  if (decide (k12 ≤ n4)) = true then ((rows5.a).bind fun p_40 =>
  if (0 : Int) ≤ c8 ∧ c8 < ((rows5.len : Nat) : Int) then ((rows5.a).bind fun p_41 =>
  if (0 : Int) ≤ c8 ∧ c8 < ((rows5.len : Nat) : Int) then ((ldS (p_40.add ((Int.toNat c8) * 1)) w.drew).bind fun v_42 =>
  (ldS (p_41.add ((Int.toNat c8) * 1)) w.drew).bind fun v_43 =>
  (v_43.a).bind fun p_44 =>
  if (0 : Int) ≤ k12 ∧ k12 < ((v_43.len : Nat) : Int) then ((ldI .u8 (p_44.add ((Int.toNat k12) * 1)) w.drew).bind fun v_45 =>
  (ref11_times K v_45 by11).bind fun r_46 =>
  (v_42.a).bind fun p_47 =>
  if (0 : Int) ≤ k12 ∧ k12 < ((v_42.len : Nat) : Int) then ((stC (p_47.add ((Int.toNat k12) * 1)) (.int .u8 r_46.1) w.drew).bind fun w_48 =>
  rec n4 rows5 x7 c8 by11 (IntKind.i64.wrap (k12 + 1)) w_48) else none) else none) else none) else none) else (some ((), w))
noncomputable def ref11_Solve_l4 (K : Nat) (n : Nat) : Int → Sl → Sl → Int → Int → Int → World → Option ((Unit) × World) := iter (fun _ _ _ _ _ _ _ => none) (ref11_Solve_l4_b K) n
noncomputable def ref11_Solve_s6 (K : Nat) (rows5 : Sl) (c8 : Int) (i13 : Int) (w : World) : Option ((Bool × Unit) × World) :=
  if (i13 == c8) = true then (some ((true, ()), w)) else ((rows5.a).bind fun p_51 =>
  if (0 : Int) ≤ i13 ∧ i13 < ((rows5.len : Nat) : Int) then ((ldS (p_51.add ((Int.toNat i13) * 1)) w).bind fun v_52 =>
  (v_52.a).bind fun p_53 =>
  if (0 : Int) ≤ c8 ∧ c8 < ((v_52.len : Nat) : Int) then ((ldI .u8 (p_53.add ((Int.toNat c8) * 1)) w).bind fun v_54 =>
  some (((v_54 == 0), ()), w)) else none) else none)
noncomputable def ref11_Solve_l7_b (K : Nat) (rec : Int → Sl → Sl → Int → Int → Int → Int → World → Option ((Unit) × World)) (n4 : Int) (rows5 : Sl) (x7 : Sl) (c8 : Int) (i13 : Int) (f14 : Int) (k15 : Int) (w : World) : Option ((Unit) × World) :=
  if (decide (k15 ≤ n4)) = true then ((rows5.a).bind fun p_61 =>
  if (0 : Int) ≤ i13 ∧ i13 < ((rows5.len : Nat) : Int) then ((rows5.a).bind fun p_62 =>
  if (0 : Int) ≤ i13 ∧ i13 < ((rows5.len : Nat) : Int) then ((rows5.a).bind fun p_63 =>
  if (0 : Int) ≤ c8 ∧ c8 < ((rows5.len : Nat) : Int) then ((ldS (p_61.add ((Int.toNat i13) * 1)) w.drew).bind fun v_64 =>
  (ldS (p_62.add ((Int.toNat i13) * 1)) w.drew).bind fun v_65 =>
  (v_65.a).bind fun p_66 =>
  if (0 : Int) ≤ k15 ∧ k15 < ((v_65.len : Nat) : Int) then ((ldI .u8 (p_66.add ((Int.toNat k15) * 1)) w.drew).bind fun v_67 =>
  (ldS (p_63.add ((Int.toNat c8) * 1)) w.drew).bind fun v_68 =>
  (v_68.a).bind fun p_69 =>
  if (0 : Int) ≤ k15 ∧ k15 < ((v_68.len : Nat) : Int) then ((ldI .u8 (p_69.add ((Int.toNat k15) * 1)) w.drew).bind fun v_70 =>
  (ref11_times K f14 v_70).bind fun r_71 =>
  (v_64.a).bind fun p_72 =>
  if (0 : Int) ≤ k15 ∧ k15 < ((v_64.len : Nat) : Int) then ((stC (p_72.add ((Int.toNat k15) * 1)) (.int .u8 (bits .xor .u8 v_67 r_71.1)) w.drew).bind fun w_73 =>
  rec n4 rows5 x7 c8 i13 f14 (IntKind.i64.wrap (k15 + 1)) w_73) else none) else none) else none) else none) else none) else none) else (some ((), w))
noncomputable def ref11_Solve_l7 (K : Nat) (n : Nat) : Int → Sl → Sl → Int → Int → Int → Int → World → Option ((Unit) × World) := iter (fun _ _ _ _ _ _ _ _ => none) (ref11_Solve_l7_b K) n
noncomputable def ref11_Solve_l5_b (K : Nat) (rec : Int → Sl → Sl → Int → Int → World → Option ((Unit) × World)) (n4 : Int) (rows5 : Sl) (x7 : Sl) (c8 : Int) (i13 : Int) (w : World) : Option ((Unit) × World) :=
  if (decide (i13 < ((rows5.len : Nat) : Int))) = true then (bnd (ref11_Solve_s6 K rows5 c8 i13 w) fun y_55 w_56 =>
  if y_55.1 = true then (rec n4 rows5 x7 c8 (IntKind.i64.wrap (i13 + 1)) w_56) else ((rows5.a).bind fun p_57 =>
  if (0 : Int) ≤ i13 ∧ i13 < ((rows5.len : Nat) : Int) then ((ldS (p_57.add ((Int.toNat i13) * 1)) w_56).bind fun v_58 =>
  (v_58.a).bind fun p_59 =>
  if (0 : Int) ≤ c8 ∧ c8 < ((v_58.len : Nat) : Int) then ((ldI .u8 (p_59.add ((Int.toNat c8) * 1)) w_56).bind fun v_60 =>
  bnd (ref11_Solve_l7 K K n4 rows5 x7 c8 i13 v_60 0 w_56) fun y_74 w_75 =>
  rec n4 rows5 x7 c8 (IntKind.i64.wrap (i13 + 1)) w_75) else none) else none)) else (some ((), w))
noncomputable def ref11_Solve_l5 (K : Nat) (n : Nat) : Int → Sl → Sl → Int → Int → World → Option ((Unit) × World) := iter (fun _ _ _ _ _ _ => none) (ref11_Solve_l5_b K) n
noncomputable def ref11_Solve_l1_b (K : Nat) (rec : Int → Sl → Sl → Int → World → Option ((Out (Sl × Unit) (Sl × Bool × Unit)) × World)) (n4 : Int) (rows5 : Sl) (x7 : Sl) (c8 : Int) (w : World) : Option ((Out (Sl × Unit) (Sl × Bool × Unit)) × World) :=
  if (decide (c8 < n4)) = true then (bnd (bldS prog 23 1 #[(0, (.int .u8 0))] w) fun s_15 w_16 =>
  bnd (apd prog 23 23 (.slice x7.a x7.len x7.cap) (.slice s_15.a s_15.len s_15.cap) w_16) fun s_17 w_18 =>
  bnd (ref11_Solve_l2 K K n4 rows5 s_17 c8 (-1) c8 w_18) fun y_25 w_26 =>
  if (decide (y_25.1 < 0)) = true then (some (.ret (⟨none, 0, 0⟩, false, ()), w_26)) else ((rows5.a).bind fun p_27 =>
  if (0 : Int) ≤ y_25.1 ∧ y_25.1 < ((rows5.len : Nat) : Int) then ((rows5.a).bind fun p_28 =>
  if (0 : Int) ≤ c8 ∧ c8 < ((rows5.len : Nat) : Int) then ((ldS (p_27.add ((Int.toNat y_25.1) * 1)) w_26.drew).bind fun v_29 =>
  (ldS (p_28.add ((Int.toNat c8) * 1)) w_26.drew).bind fun v_30 =>
  (rows5.a).bind fun p_31 =>
  if (0 : Int) ≤ c8 ∧ c8 < ((rows5.len : Nat) : Int) then ((stC (p_31.add ((Int.toNat c8) * 1)) (.slice v_29.a v_29.len v_29.cap) w_26.drew).bind fun w_32 =>
  (rows5.a).bind fun p_33 =>
  if (0 : Int) ≤ y_25.1 ∧ y_25.1 < ((rows5.len : Nat) : Int) then ((stC (p_33.add ((Int.toNat y_25.1) * 1)) (.slice v_30.a v_30.len v_30.cap) w_32).bind fun w_34 =>
  (rows5.a).bind fun p_35 =>
  if (0 : Int) ≤ c8 ∧ c8 < ((rows5.len : Nat) : Int) then ((ldS (p_35.add ((Int.toNat c8) * 1)) w_34).bind fun v_36 =>
  (v_36.a).bind fun p_37 =>
  if (0 : Int) ≤ c8 ∧ c8 < ((v_36.len : Nat) : Int) then ((ldI .u8 (p_37.add ((Int.toNat c8) * 1)) w_34).bind fun v_38 =>
  (ref11_over K 1 v_38).bind fun r_39 =>
  bnd (ref11_Solve_l4 K K n4 rows5 s_17 c8 r_39.1 0 w_34) fun y_49 w_50 =>
  bnd (ref11_Solve_l5 K K n4 rows5 s_17 c8 0 w_50) fun y_76 w_77 =>
  rec n4 rows5 s_17 (IntKind.i64.wrap (c8 + 1)) w_77) else none) else none) else none) else none) else none) else none)) else (some (.norm (x7, ()), w))
noncomputable def ref11_Solve_l1 (K : Nat) (n : Nat) : Int → Sl → Sl → Int → World → Option ((Out (Sl × Unit) (Sl × Bool × Unit)) × World) := iter (fun _ _ _ _ _ => none) (ref11_Solve_l1_b K) n
noncomputable def ref11_Solve_l8_b (K : Nat) (rec : Int → Sl → Sl → Int → World → Option ((Out (Unit) (Sl × Bool × Unit)) × World)) (n4 : Int) (rows5 : Sl) (x7 : Sl) (i16 : Int) (w : World) : Option ((Out (Unit) (Sl × Bool × Unit)) × World) :=
  if (decide (i16 < ((rows5.len : Nat) : Int))) = true then ((rows5.a).bind fun p_81 =>
  if (0 : Int) ≤ i16 ∧ i16 < ((rows5.len : Nat) : Int) then ((ldS (p_81.add ((Int.toNat i16) * 1)) w).bind fun v_82 =>
  (v_82.a).bind fun p_83 =>
  if (0 : Int) ≤ n4 ∧ n4 < ((v_82.len : Nat) : Int) then ((ldI .u8 (p_83.add ((Int.toNat n4) * 1)) w).bind fun v_84 =>
  if (v_84 != 0) = true then (some (.ret (⟨none, 0, 0⟩, false, ()), w)) else (rec n4 rows5 x7 (IntKind.i64.wrap (i16 + 1)) w)) else none) else none) else (some (.norm (), w))
noncomputable def ref11_Solve_l8 (K : Nat) (n : Nat) : Int → Sl → Sl → Int → World → Option ((Out (Unit) (Sl × Bool × Unit)) × World) := iter (fun _ _ _ _ _ => none) (ref11_Solve_l8_b K) n
noncomputable def ref11_Solve_l9_b (K : Nat) (rec : Int → Sl → Sl → Int → World → Option ((Unit) × World)) (n4 : Int) (rows5 : Sl) (x7 : Sl) (c17 : Int) (w : World) : Option ((Unit) × World) :=
  if (decide (c17 < n4)) = true then ((rows5.a).bind fun p_88 =>
  if (0 : Int) ≤ c17 ∧ c17 < ((rows5.len : Nat) : Int) then ((ldS (p_88.add ((Int.toNat c17) * 1)) w).bind fun v_89 =>
  (v_89.a).bind fun p_90 =>
  if (0 : Int) ≤ n4 ∧ n4 < ((v_89.len : Nat) : Int) then ((ldI .u8 (p_90.add ((Int.toNat n4) * 1)) w).bind fun v_91 =>
  (x7.a).bind fun p_92 =>
  if (0 : Int) ≤ c17 ∧ c17 < ((x7.len : Nat) : Int) then ((stC (p_92.add ((Int.toNat c17) * 1)) (.int .u8 v_91) w).bind fun w_93 =>
  rec n4 rows5 x7 (IntKind.i64.wrap (c17 + 1)) w_93) else none) else none) else none) else (some ((), w))
noncomputable def ref11_Solve_l9 (K : Nat) (n : Nat) : Int → Sl → Sl → Int → World → Option ((Unit) × World) := iter (fun _ _ _ _ _ => none) (ref11_Solve_l9_b K) n
/-- coffer/cofferref11.Solve -/
noncomputable def ref11_Solve (K : Nat) (m0 : Sl) (w : World) : Option ((Sl × Bool × Unit) × World) :=
  if (((m0.len : Nat) : Int) == 0) = true then (some ((⟨none, 0, 0⟩, true, ()), w)) else ((m0.a).bind fun p_1 =>
  if (0 : Int) ≤ 0 ∧ 0 < ((m0.len : Nat) : Int) then ((ldS (p_1.add (0 * 1)) w).bind fun v_2 =>
  bnd (ref11_Solve_l0 K K m0 (IntKind.i64.wrap (((v_2.len : Nat) : Int) - 1)) ⟨none, 0, 0⟩ 0 w) fun y_13 w_14 =>
  bnd (ref11_Solve_l1 K K (IntKind.i64.wrap (((v_2.len : Nat) : Int) - 1)) y_13.1 ⟨none, 0, 0⟩ 0 w_14) fun y_78 w_79 =>
  (match y_78 with
  | .norm z_80n => (bnd (ref11_Solve_l8 K K (IntKind.i64.wrap (((v_2.len : Nat) : Int) - 1)) y_13.1 z_80n.1 (IntKind.i64.wrap (((v_2.len : Nat) : Int) - 1)) w_79) fun y_85 w_86 =>
  (match y_85 with
  | .norm z_87n => (bnd (ref11_Solve_l9 K K (IntKind.i64.wrap (((v_2.len : Nat) : Int) - 1)) y_13.1 z_80n.1 0 w_86) fun y_94 w_95 =>
  some ((z_80n.1, true, ()), w_95))
  | .ret z_87r => (some ((z_87r.1, z_87r.2.1, ()), w_86))))
  | .ret z_80r => (some ((z_80r.1, z_80r.2.1, ()), w_79)))) else none)
theorem ref11_Solve_l0_ok (K : Nat) (n : Nat) : StmtNOk prog [(0, .sl), (4, .int .i64), (5, .sl), (6, .int .i64)] [(5, .sl)] [(5, 7), (26, 41)] ((fun n x w => ref11_Solve_l0 K n x.1 x.2.1 x.2.2.1 x.2.2.2.1 w) n) (.block 0 (.loop (cd (bodyOf f84) [1, 1, 1, 1, 0, 1, 0, 0]))) :=
    mk_loopN (O := tabL []) (root := (bodyOf f84)) (π := [1, 1, 1, 1, 0, 1, 0, 0]) (id := 0) (Li := [(0, .sl), (4, .int .i64), (5, .sl), (6, .int .i64)]) (Lo := [(5, .sl)]) (S := (fun n x w => ref11_Solve_l0 K n x.1 x.2.1 x.2.2.1 x.2.2.2.1 w)) (body := cd (bodyOf f84) [1, 1, 1, 1, 0, 1, 0, 0]) (ref11_Solve_Eok K) (ref11_Solve_Rok K) rfl (Orc.nil _ _ _) (by kernel_rfl) (fun _ _ => by kernel_rfl) (fun _ _ _ => by kernel_rfl) n
noncomputable def ref11_Solve_l0_se (K : Nat) : SE := stmtN [(0, .sl), (4, .int .i64), (5, .sl), (6, .int .i64)] [(5, .sl)] [(5, 7), (26, 41)] (fun x w => ref11_Solve_l0 K K x.1 x.2.1 x.2.2.1 x.2.2.2.1 w)
theorem ref11_Solve_l0_se_ok (K : Nat) (R : Rg) (h : subRB [(5, 7), (26, 41)] R = true) : (ref11_Solve_l0_se K).Ok prog R (.block 0 (.loop (cd (bodyOf f84) [1, 1, 1, 1, 0, 1, 0, 0]))) := stmtN_ok (Li := [(0, .sl), (4, .int .i64), (5, .sl), (6, .int .i64)]) (Lo := [(5, .sl)]) (S := (fun x w => ref11_Solve_l0 K K x.1 x.2.1 x.2.2.1 x.2.2.2.1 w)) (ref11_Solve_l0_ok K K) (subR_of h)
theorem ref11_Solve_s3_ok (K : Nat) : StmtNOk prog [(5, .sl), (9, .int .i64), (10, .int .i64)] [(57, .bool)] [(50, 58)] (fun x w => ref11_Solve_s3 K x.1 x.2.1 x.2.2.1 w) (cd (bodyOf f84) [1, 1, 1, 1, 1, 1, 0, 1, 0, 0, 1, 0, 0, 1, 1, 0, 1, 0, 0, 0, 0]) :=
    mk_stmtN (O := tabL []) (root := (bodyOf f84)) (π := [1, 1, 1, 1, 1, 1, 0, 1, 0, 0, 1, 0, 0, 1, 1, 0, 1, 0, 0, 0, 0]) (Li := [(5, .sl), (9, .int .i64), (10, .int .i64)]) (Lo := [(57, .bool)]) (S := (fun x w => ref11_Solve_s3 K x.1 x.2.1 x.2.2.1 w)) (ref11_Solve_Eok K) (ref11_Solve_Rok K) rfl (Orc.nil _ _ _) (by kernel_rfl) (fun _ _ => by kernel_rfl)
noncomputable def ref11_Solve_s3_se (K : Nat) : SE := stmtN [(5, .sl), (9, .int .i64), (10, .int .i64)] [(57, .bool)] [(50, 58)] (fun x w => ref11_Solve_s3 K x.1 x.2.1 x.2.2.1 w)
theorem ref11_Solve_s3_se_ok (K : Nat) (R : Rg) (h : subRB [(50, 58)] R = true) : (ref11_Solve_s3_se K).Ok prog R (cd (bodyOf f84) [1, 1, 1, 1, 1, 1, 0, 1, 0, 0, 1, 0, 0, 1, 1, 0, 1, 0, 0, 0, 0]) := stmtN_ok (Li := [(5, .sl), (9, .int .i64), (10, .int .i64)]) (Lo := [(57, .bool)]) (S := (fun x w => ref11_Solve_s3 K x.1 x.2.1 x.2.2.1 w)) (ref11_Solve_s3_ok K) (subR_of h)
theorem ref11_Solve_l2_ok (K : Nat) (n : Nat) : StmtNOk prog [(4, .int .i64), (5, .sl), (7, .sl), (8, .int .i64), (9, .int .i64), (10, .int .i64)] [(9, .int .i64)] [(9, 11), (50, 69)] ((fun n x w => ref11_Solve_l2 K n x.1 x.2.1 x.2.2.1 x.2.2.2.1 x.2.2.2.2.1 x.2.2.2.2.2.1 w) n) (.block 4 (.loop (cd (bodyOf f84) [1, 1, 1, 1, 1, 1, 0, 1, 0, 0, 1, 0, 0, 1, 1, 0, 1, 0, 0]))) :=
    mk_loopN (O := tabL [([1, 1, 1, 1, 1, 1, 0, 1, 0, 0, 1, 0, 0, 1, 1, 0, 1, 0, 0, 0, 0], ref11_Solve_s3_se K)]) (root := (bodyOf f84)) (π := [1, 1, 1, 1, 1, 1, 0, 1, 0, 0, 1, 0, 0, 1, 1, 0, 1, 0, 0]) (id := 4) (Li := [(4, .int .i64), (5, .sl), (7, .sl), (8, .int .i64), (9, .int .i64), (10, .int .i64)]) (Lo := [(9, .int .i64)]) (S := (fun n x w => ref11_Solve_l2 K n x.1 x.2.1 x.2.2.1 x.2.2.2.1 x.2.2.2.2.1 x.2.2.2.2.2.1 w)) (body := cd (bodyOf f84) [1, 1, 1, 1, 1, 1, 0, 1, 0, 0, 1, 0, 0, 1, 1, 0, 1, 0, 0]) (ref11_Solve_Eok K) (ref11_Solve_Rok K) rfl (Orc.cons (by kernel_rfl) (ref11_Solve_s3_se_ok K [(9, 11), (50, 69)] (by kernel_rfl)) (Orc.nil _ _ _)) (by kernel_rfl) (fun _ _ => by kernel_rfl) (fun _ _ _ => by kernel_rfl) n
noncomputable def ref11_Solve_l2_se (K : Nat) : SE := stmtN [(4, .int .i64), (5, .sl), (7, .sl), (8, .int .i64), (9, .int .i64), (10, .int .i64)] [(9, .int .i64)] [(9, 11), (50, 69)] (fun x w => ref11_Solve_l2 K K x.1 x.2.1 x.2.2.1 x.2.2.2.1 x.2.2.2.2.1 x.2.2.2.2.2.1 w)
theorem ref11_Solve_l2_se_ok (K : Nat) (R : Rg) (h : subRB [(9, 11), (50, 69)] R = true) : (ref11_Solve_l2_se K).Ok prog R (.block 4 (.loop (cd (bodyOf f84) [1, 1, 1, 1, 1, 1, 0, 1, 0, 0, 1, 0, 0, 1, 1, 0, 1, 0, 0]))) := stmtN_ok (Li := [(4, .int .i64), (5, .sl), (7, .sl), (8, .int .i64), (9, .int .i64), (10, .int .i64)]) (Lo := [(9, .int .i64)]) (S := (fun x w => ref11_Solve_l2 K K x.1 x.2.1 x.2.2.1 x.2.2.2.1 x.2.2.2.2.1 x.2.2.2.2.2.1 w)) (ref11_Solve_l2_ok K K) (subR_of h)
theorem ref11_Solve_l4_ok (K : Nat) (n : Nat) : StmtNOk prog [(4, .int .i64), (5, .sl), (7, .sl), (8, .int .i64), (11, .int .u8), (12, .int .i64)] [] [(12, 13), (93, 113)] ((fun n x w => ref11_Solve_l4 K n x.1 x.2.1 x.2.2.1 x.2.2.2.1 x.2.2.2.2.1 x.2.2.2.2.2.1 w) n) (.block 6 (.loop (cd (bodyOf f84) [1, 1, 1, 1, 1, 1, 0, 1, 0, 0, 1, 0, 0, 1, 1, 1, 1, 1, 1, 0, 1, 0, 0]))) :=
    mk_loopN (O := tabL []) (root := (bodyOf f84)) (π := [1, 1, 1, 1, 1, 1, 0, 1, 0, 0, 1, 0, 0, 1, 1, 1, 1, 1, 1, 0, 1, 0, 0]) (id := 6) (Li := [(4, .int .i64), (5, .sl), (7, .sl), (8, .int .i64), (11, .int .u8), (12, .int .i64)]) (Lo := []) (S := (fun n x w => ref11_Solve_l4 K n x.1 x.2.1 x.2.2.1 x.2.2.2.1 x.2.2.2.2.1 x.2.2.2.2.2.1 w)) (body := cd (bodyOf f84) [1, 1, 1, 1, 1, 1, 0, 1, 0, 0, 1, 0, 0, 1, 1, 1, 1, 1, 1, 0, 1, 0, 0]) (ref11_Solve_Eok K) (ref11_Solve_Rok K) rfl (Orc.nil _ _ _) (by kernel_rfl) (fun _ _ => by kernel_rfl) (fun _ _ _ => by kernel_rfl) n
noncomputable def ref11_Solve_l4_se (K : Nat) : SE := stmtN [(4, .int .i64), (5, .sl), (7, .sl), (8, .int .i64), (11, .int .u8), (12, .int .i64)] [] [(12, 13), (93, 113)] (fun x w => ref11_Solve_l4 K K x.1 x.2.1 x.2.2.1 x.2.2.2.1 x.2.2.2.2.1 x.2.2.2.2.2.1 w)
theorem ref11_Solve_l4_se_ok (K : Nat) (R : Rg) (h : subRB [(12, 13), (93, 113)] R = true) : (ref11_Solve_l4_se K).Ok prog R (.block 6 (.loop (cd (bodyOf f84) [1, 1, 1, 1, 1, 1, 0, 1, 0, 0, 1, 0, 0, 1, 1, 1, 1, 1, 1, 0, 1, 0, 0]))) := stmtN_ok (Li := [(4, .int .i64), (5, .sl), (7, .sl), (8, .int .i64), (11, .int .u8), (12, .int .i64)]) (Lo := []) (S := (fun x w => ref11_Solve_l4 K K x.1 x.2.1 x.2.2.1 x.2.2.2.1 x.2.2.2.2.1 x.2.2.2.2.2.1 w)) (ref11_Solve_l4_ok K K) (subR_of h)
theorem ref11_Solve_s6_ok (K : Nat) : StmtNOk prog [(5, .sl), (8, .int .i64), (13, .int .i64)] [(131, .bool)] [(119, 132)] (fun x w => ref11_Solve_s6 K x.1 x.2.1 x.2.2.1 w) (cd (bodyOf f84) [1, 1, 1, 1, 1, 1, 0, 1, 0, 0, 1, 0, 0, 1, 1, 1, 1, 1, 1, 1, 1, 0, 0, 1, 0, 0, 0, 0]) :=
    mk_stmtN (O := tabL []) (root := (bodyOf f84)) (π := [1, 1, 1, 1, 1, 1, 0, 1, 0, 0, 1, 0, 0, 1, 1, 1, 1, 1, 1, 1, 1, 0, 0, 1, 0, 0, 0, 0]) (Li := [(5, .sl), (8, .int .i64), (13, .int .i64)]) (Lo := [(131, .bool)]) (S := (fun x w => ref11_Solve_s6 K x.1 x.2.1 x.2.2.1 w)) (ref11_Solve_Eok K) (ref11_Solve_Rok K) rfl (Orc.nil _ _ _) (by kernel_rfl) (fun _ _ => by kernel_rfl)
noncomputable def ref11_Solve_s6_se (K : Nat) : SE := stmtN [(5, .sl), (8, .int .i64), (13, .int .i64)] [(131, .bool)] [(119, 132)] (fun x w => ref11_Solve_s6 K x.1 x.2.1 x.2.2.1 w)
theorem ref11_Solve_s6_se_ok (K : Nat) (R : Rg) (h : subRB [(119, 132)] R = true) : (ref11_Solve_s6_se K).Ok prog R (cd (bodyOf f84) [1, 1, 1, 1, 1, 1, 0, 1, 0, 0, 1, 0, 0, 1, 1, 1, 1, 1, 1, 1, 1, 0, 0, 1, 0, 0, 0, 0]) := stmtN_ok (Li := [(5, .sl), (8, .int .i64), (13, .int .i64)]) (Lo := [(131, .bool)]) (S := (fun x w => ref11_Solve_s6 K x.1 x.2.1 x.2.2.1 w)) (ref11_Solve_s6_ok K) (subR_of h)
theorem ref11_Solve_l7_ok (K : Nat) (n : Nat) : StmtNOk prog [(4, .int .i64), (5, .sl), (7, .sl), (8, .int .i64), (13, .int .i64), (14, .int .u8), (15, .int .i64)] [] [(15, 16), (139, 167)] ((fun n x w => ref11_Solve_l7 K n x.1 x.2.1 x.2.2.1 x.2.2.2.1 x.2.2.2.2.1 x.2.2.2.2.2.1 x.2.2.2.2.2.2.1 w) n) (.block 10 (.loop (cd (bodyOf f84) [1, 1, 1, 1, 1, 1, 0, 1, 0, 0, 1, 0, 0, 1, 1, 1, 1, 1, 1, 1, 1, 0, 0, 1, 0, 0, 1, 1, 1, 0, 0]))) :=
    mk_loopN (O := tabL []) (root := (bodyOf f84)) (π := [1, 1, 1, 1, 1, 1, 0, 1, 0, 0, 1, 0, 0, 1, 1, 1, 1, 1, 1, 1, 1, 0, 0, 1, 0, 0, 1, 1, 1, 0, 0]) (id := 10) (Li := [(4, .int .i64), (5, .sl), (7, .sl), (8, .int .i64), (13, .int .i64), (14, .int .u8), (15, .int .i64)]) (Lo := []) (S := (fun n x w => ref11_Solve_l7 K n x.1 x.2.1 x.2.2.1 x.2.2.2.1 x.2.2.2.2.1 x.2.2.2.2.2.1 x.2.2.2.2.2.2.1 w)) (body := cd (bodyOf f84) [1, 1, 1, 1, 1, 1, 0, 1, 0, 0, 1, 0, 0, 1, 1, 1, 1, 1, 1, 1, 1, 0, 0, 1, 0, 0, 1, 1, 1, 0, 0]) (ref11_Solve_Eok K) (ref11_Solve_Rok K) rfl (Orc.nil _ _ _) (by kernel_rfl) (fun _ _ => by kernel_rfl) (fun _ _ _ => by kernel_rfl) n
noncomputable def ref11_Solve_l7_se (K : Nat) : SE := stmtN [(4, .int .i64), (5, .sl), (7, .sl), (8, .int .i64), (13, .int .i64), (14, .int .u8), (15, .int .i64)] [] [(15, 16), (139, 167)] (fun x w => ref11_Solve_l7 K K x.1 x.2.1 x.2.2.1 x.2.2.2.1 x.2.2.2.2.1 x.2.2.2.2.2.1 x.2.2.2.2.2.2.1 w)
theorem ref11_Solve_l7_se_ok (K : Nat) (R : Rg) (h : subRB [(15, 16), (139, 167)] R = true) : (ref11_Solve_l7_se K).Ok prog R (.block 10 (.loop (cd (bodyOf f84) [1, 1, 1, 1, 1, 1, 0, 1, 0, 0, 1, 0, 0, 1, 1, 1, 1, 1, 1, 1, 1, 0, 0, 1, 0, 0, 1, 1, 1, 0, 0]))) := stmtN_ok (Li := [(4, .int .i64), (5, .sl), (7, .sl), (8, .int .i64), (13, .int .i64), (14, .int .u8), (15, .int .i64)]) (Lo := []) (S := (fun x w => ref11_Solve_l7 K K x.1 x.2.1 x.2.2.1 x.2.2.2.1 x.2.2.2.2.1 x.2.2.2.2.2.1 x.2.2.2.2.2.2.1 w)) (ref11_Solve_l7_ok K K) (subR_of h)
theorem ref11_Solve_l5_ok (K : Nat) (n : Nat) : StmtNOk prog [(4, .int .i64), (5, .sl), (7, .sl), (8, .int .i64), (13, .int .i64)] [] [(13, 16), (113, 167)] ((fun n x w => ref11_Solve_l5 K n x.1 x.2.1 x.2.2.1 x.2.2.2.1 x.2.2.2.2.1 w) n) (.block 8 (.loop (cd (bodyOf f84) [1, 1, 1, 1, 1, 1, 0, 1, 0, 0, 1, 0, 0, 1, 1, 1, 1, 1, 1, 1, 1, 0, 0]))) :=
    mk_loopN (O := tabL [([1, 1, 1, 1, 1, 1, 0, 1, 0, 0, 1, 0, 0, 1, 1, 1, 1, 1, 1, 1, 1, 0, 0, 1, 0, 0, 0, 0], ref11_Solve_s6_se K), ([1, 1, 1, 1, 1, 1, 0, 1, 0, 0, 1, 0, 0, 1, 1, 1, 1, 1, 1, 1, 1, 0, 0, 1, 0, 0, 1, 1, 1], ref11_Solve_l7_se K)]) (root := (bodyOf f84)) (π := [1, 1, 1, 1, 1, 1, 0, 1, 0, 0, 1, 0, 0, 1, 1, 1, 1, 1, 1, 1, 1, 0, 0]) (id := 8) (Li := [(4, .int .i64), (5, .sl), (7, .sl), (8, .int .i64), (13, .int .i64)]) (Lo := []) (S := (fun n x w => ref11_Solve_l5 K n x.1 x.2.1 x.2.2.1 x.2.2.2.1 x.2.2.2.2.1 w)) (body := cd (bodyOf f84) [1, 1, 1, 1, 1, 1, 0, 1, 0, 0, 1, 0, 0, 1, 1, 1, 1, 1, 1, 1, 1, 0, 0]) (ref11_Solve_Eok K) (ref11_Solve_Rok K) rfl (Orc.cons (by kernel_rfl) (ref11_Solve_s6_se_ok K [(13, 16), (113, 167)] (by kernel_rfl)) (Orc.cons (by kernel_rfl) (ref11_Solve_l7_se_ok K [(13, 16), (113, 167)] (by kernel_rfl)) (Orc.nil _ _ _))) (by kernel_rfl) (fun _ _ => by kernel_rfl) (fun _ _ _ => by kernel_rfl) n
noncomputable def ref11_Solve_l5_se (K : Nat) : SE := stmtN [(4, .int .i64), (5, .sl), (7, .sl), (8, .int .i64), (13, .int .i64)] [] [(13, 16), (113, 167)] (fun x w => ref11_Solve_l5 K K x.1 x.2.1 x.2.2.1 x.2.2.2.1 x.2.2.2.2.1 w)
theorem ref11_Solve_l5_se_ok (K : Nat) (R : Rg) (h : subRB [(13, 16), (113, 167)] R = true) : (ref11_Solve_l5_se K).Ok prog R (.block 8 (.loop (cd (bodyOf f84) [1, 1, 1, 1, 1, 1, 0, 1, 0, 0, 1, 0, 0, 1, 1, 1, 1, 1, 1, 1, 1, 0, 0]))) := stmtN_ok (Li := [(4, .int .i64), (5, .sl), (7, .sl), (8, .int .i64), (13, .int .i64)]) (Lo := []) (S := (fun x w => ref11_Solve_l5 K K x.1 x.2.1 x.2.2.1 x.2.2.2.1 x.2.2.2.2.1 w)) (ref11_Solve_l5_ok K K) (subR_of h)
theorem ref11_Solve_l1_ok (K : Nat) (n : Nat) : StmtOk prog [(4, .int .i64), (5, .sl), (7, .sl), (8, .int .i64)] [(7, .sl)] [(2, .sl), (3, .bool)] [(2, 4), (7, 16), (41, 167)] ((fun n x w => ref11_Solve_l1 K n x.1 x.2.1 x.2.2.1 x.2.2.2.1 w) n) (.block 2 (.loop (cd (bodyOf f84) [1, 1, 1, 1, 1, 1, 0, 1, 0, 0]))) :=
    mk_loop (O := tabL [([1, 1, 1, 1, 1, 1, 0, 1, 0, 0, 1, 0, 0, 1, 1, 0, 1], ref11_Solve_l2_se K), ([1, 1, 1, 1, 1, 1, 0, 1, 0, 0, 1, 0, 0, 1, 1, 0, 1, 0, 0, 0, 0], ref11_Solve_s3_se K), ([1, 1, 1, 1, 1, 1, 0, 1, 0, 0, 1, 0, 0, 1, 1, 1, 1, 1, 1, 0, 1], ref11_Solve_l4_se K), ([1, 1, 1, 1, 1, 1, 0, 1, 0, 0, 1, 0, 0, 1, 1, 1, 1, 1, 1, 1, 1], ref11_Solve_l5_se K), ([1, 1, 1, 1, 1, 1, 0, 1, 0, 0, 1, 0, 0, 1, 1, 1, 1, 1, 1, 1, 1, 0, 0, 1, 0, 0, 0, 0], ref11_Solve_s6_se K), ([1, 1, 1, 1, 1, 1, 0, 1, 0, 0, 1, 0, 0, 1, 1, 1, 1, 1, 1, 1, 1, 0, 0, 1, 0, 0, 1, 1, 1], ref11_Solve_l7_se K)]) (root := (bodyOf f84)) (π := [1, 1, 1, 1, 1, 1, 0, 1, 0, 0]) (id := 2) (Li := [(4, .int .i64), (5, .sl), (7, .sl), (8, .int .i64)]) (Lo := [(7, .sl)]) (Lr := [(2, .sl), (3, .bool)]) (S := (fun n x w => ref11_Solve_l1 K n x.1 x.2.1 x.2.2.1 x.2.2.2.1 w)) (body := cd (bodyOf f84) [1, 1, 1, 1, 1, 1, 0, 1, 0, 0]) (ref11_Solve_Eok K) (ref11_Solve_Rok K) rfl (Orc.cons (by kernel_rfl) (ref11_Solve_l2_se_ok K [(2, 4), (7, 16), (41, 167)] (by kernel_rfl)) (Orc.cons (by kernel_rfl) (ref11_Solve_s3_se_ok K [(2, 4), (7, 16), (41, 167)] (by kernel_rfl)) (Orc.cons (by kernel_rfl) (ref11_Solve_l4_se_ok K [(2, 4), (7, 16), (41, 167)] (by kernel_rfl)) (Orc.cons (by kernel_rfl) (ref11_Solve_l5_se_ok K [(2, 4), (7, 16), (41, 167)] (by kernel_rfl)) (Orc.cons (by kernel_rfl) (ref11_Solve_s6_se_ok K [(2, 4), (7, 16), (41, 167)] (by kernel_rfl)) (Orc.cons (by kernel_rfl) (ref11_Solve_l7_se_ok K [(2, 4), (7, 16), (41, 167)] (by kernel_rfl)) (Orc.nil _ _ _))))))) (by kernel_rfl) (fun _ _ => by kernel_rfl) (fun _ _ _ => by kernel_rfl) n
noncomputable def ref11_Solve_l1_se (K : Nat) : SE := stmt [(4, .int .i64), (5, .sl), (7, .sl), (8, .int .i64)] [(7, .sl)] [(2, .sl), (3, .bool)] [(2, 4), (7, 16), (41, 167)] (fun x w => ref11_Solve_l1 K K x.1 x.2.1 x.2.2.1 x.2.2.2.1 w)
theorem ref11_Solve_l1_se_ok (K : Nat) (R : Rg) (h : subRB [(2, 4), (7, 16), (41, 167)] R = true) : (ref11_Solve_l1_se K).Ok prog R (.block 2 (.loop (cd (bodyOf f84) [1, 1, 1, 1, 1, 1, 0, 1, 0, 0]))) := stmt_ok (Li := [(4, .int .i64), (5, .sl), (7, .sl), (8, .int .i64)]) (Lo := [(7, .sl)]) (Lr := [(2, .sl), (3, .bool)]) (S := (fun x w => ref11_Solve_l1 K K x.1 x.2.1 x.2.2.1 x.2.2.2.1 w)) (ref11_Solve_l1_ok K K) (subR_of h)
theorem ref11_Solve_l8_ok (K : Nat) (n : Nat) : StmtOk prog [(4, .int .i64), (5, .sl), (7, .sl), (16, .int .i64)] [] [(2, .sl), (3, .bool)] [(2, 4), (16, 17), (168, 182)] ((fun n x w => ref11_Solve_l8 K n x.1 x.2.1 x.2.2.1 x.2.2.2.1 w) n) (.block 12 (.loop (cd (bodyOf f84) [1, 1, 1, 1, 1, 1, 1, 0, 1, 0, 0]))) :=
    mk_loop (O := tabL []) (root := (bodyOf f84)) (π := [1, 1, 1, 1, 1, 1, 1, 0, 1, 0, 0]) (id := 12) (Li := [(4, .int .i64), (5, .sl), (7, .sl), (16, .int .i64)]) (Lo := []) (Lr := [(2, .sl), (3, .bool)]) (S := (fun n x w => ref11_Solve_l8 K n x.1 x.2.1 x.2.2.1 x.2.2.2.1 w)) (body := cd (bodyOf f84) [1, 1, 1, 1, 1, 1, 1, 0, 1, 0, 0]) (ref11_Solve_Eok K) (ref11_Solve_Rok K) rfl (Orc.nil _ _ _) (by kernel_rfl) (fun _ _ => by kernel_rfl) (fun _ _ _ => by kernel_rfl) n
noncomputable def ref11_Solve_l8_se (K : Nat) : SE := stmt [(4, .int .i64), (5, .sl), (7, .sl), (16, .int .i64)] [] [(2, .sl), (3, .bool)] [(2, 4), (16, 17), (168, 182)] (fun x w => ref11_Solve_l8 K K x.1 x.2.1 x.2.2.1 x.2.2.2.1 w)
theorem ref11_Solve_l8_se_ok (K : Nat) (R : Rg) (h : subRB [(2, 4), (16, 17), (168, 182)] R = true) : (ref11_Solve_l8_se K).Ok prog R (.block 12 (.loop (cd (bodyOf f84) [1, 1, 1, 1, 1, 1, 1, 0, 1, 0, 0]))) := stmt_ok (Li := [(4, .int .i64), (5, .sl), (7, .sl), (16, .int .i64)]) (Lo := []) (Lr := [(2, .sl), (3, .bool)]) (S := (fun x w => ref11_Solve_l8 K K x.1 x.2.1 x.2.2.1 x.2.2.2.1 w)) (ref11_Solve_l8_ok K K) (subR_of h)
theorem ref11_Solve_l9_ok (K : Nat) (n : Nat) : StmtNOk prog [(4, .int .i64), (5, .sl), (7, .sl), (17, .int .i64)] [] [(17, 18), (182, 197)] ((fun n x w => ref11_Solve_l9 K n x.1 x.2.1 x.2.2.1 x.2.2.2.1 w) n) (.block 14 (.loop (cd (bodyOf f84) [1, 1, 1, 1, 1, 1, 1, 1, 0, 1, 0, 0]))) :=
    mk_loopN (O := tabL []) (root := (bodyOf f84)) (π := [1, 1, 1, 1, 1, 1, 1, 1, 0, 1, 0, 0]) (id := 14) (Li := [(4, .int .i64), (5, .sl), (7, .sl), (17, .int .i64)]) (Lo := []) (S := (fun n x w => ref11_Solve_l9 K n x.1 x.2.1 x.2.2.1 x.2.2.2.1 w)) (body := cd (bodyOf f84) [1, 1, 1, 1, 1, 1, 1, 1, 0, 1, 0, 0]) (ref11_Solve_Eok K) (ref11_Solve_Rok K) rfl (Orc.nil _ _ _) (by kernel_rfl) (fun _ _ => by kernel_rfl) (fun _ _ _ => by kernel_rfl) n
noncomputable def ref11_Solve_l9_se (K : Nat) : SE := stmtN [(4, .int .i64), (5, .sl), (7, .sl), (17, .int .i64)] [] [(17, 18), (182, 197)] (fun x w => ref11_Solve_l9 K K x.1 x.2.1 x.2.2.1 x.2.2.2.1 w)
theorem ref11_Solve_l9_se_ok (K : Nat) (R : Rg) (h : subRB [(17, 18), (182, 197)] R = true) : (ref11_Solve_l9_se K).Ok prog R (.block 14 (.loop (cd (bodyOf f84) [1, 1, 1, 1, 1, 1, 1, 1, 0, 1, 0, 0]))) := stmtN_ok (Li := [(4, .int .i64), (5, .sl), (7, .sl), (17, .int .i64)]) (Lo := []) (S := (fun x w => ref11_Solve_l9 K K x.1 x.2.1 x.2.2.1 x.2.2.2.1 w)) (ref11_Solve_l9_ok K K) (subR_of h)
theorem ref11_Solve_facts : FunFacts prog 84 f84 (bodyOf f84) [(0, .sl)] [(0, 198)] := ⟨func84, by kernel_rfl, by kernel_rfl, by kernel_rfl, by kernel_rfl, by kernel_rfl⟩
theorem ref11_Solve_calls (K : Nat) (x : TT [(0, .sl)]) (w : World) (y : TR [.sl, .bool]) (w2 : World) (h : ref11_Solve K x.1 w = some (y, w2)) : Calls prog 84 (encA [(0, .sl)] x).toArray w (fun e w3 => e = .returned (resV (encR [.sl, .bool] y)) ∧ w3 = w2) :=
    mk_fun (O := tabL [([1, 1, 1, 1, 0, 1], ref11_Solve_l0_se K), ([1, 1, 1, 1, 1, 1, 0, 1], ref11_Solve_l1_se K), ([1, 1, 1, 1, 1, 1, 0, 1, 0, 0, 1, 0, 0, 1, 1, 0, 1], ref11_Solve_l2_se K), ([1, 1, 1, 1, 1, 1, 0, 1, 0, 0, 1, 0, 0, 1, 1, 0, 1, 0, 0, 0, 0], ref11_Solve_s3_se K), ([1, 1, 1, 1, 1, 1, 0, 1, 0, 0, 1, 0, 0, 1, 1, 1, 1, 1, 1, 0, 1], ref11_Solve_l4_se K), ([1, 1, 1, 1, 1, 1, 0, 1, 0, 0, 1, 0, 0, 1, 1, 1, 1, 1, 1, 1, 1], ref11_Solve_l5_se K), ([1, 1, 1, 1, 1, 1, 0, 1, 0, 0, 1, 0, 0, 1, 1, 1, 1, 1, 1, 1, 1, 0, 0, 1, 0, 0, 0, 0], ref11_Solve_s6_se K), ([1, 1, 1, 1, 1, 1, 0, 1, 0, 0, 1, 0, 0, 1, 1, 1, 1, 1, 1, 1, 1, 0, 0, 1, 0, 0, 1, 1, 1], ref11_Solve_l7_se K), ([1, 1, 1, 1, 1, 1, 1, 0, 1], ref11_Solve_l8_se K), ([1, 1, 1, 1, 1, 1, 1, 1, 0, 1], ref11_Solve_l9_se K)]) (Lp := [(0, .sl)]) (Rt := [.sl, .bool]) (S := (fun x w => ref11_Solve K x.1 w)) (ref11_Solve_Eok K) (ref11_Solve_Rok K) rfl ref11_Solve_facts (Orc.cons (by kernel_rfl) (ref11_Solve_l0_se_ok K [(0, 198)] (by kernel_rfl)) (Orc.cons (by kernel_rfl) (ref11_Solve_l1_se_ok K [(0, 198)] (by kernel_rfl)) (Orc.cons (by kernel_rfl) (ref11_Solve_l2_se_ok K [(0, 198)] (by kernel_rfl)) (Orc.cons (by kernel_rfl) (ref11_Solve_s3_se_ok K [(0, 198)] (by kernel_rfl)) (Orc.cons (by kernel_rfl) (ref11_Solve_l4_se_ok K [(0, 198)] (by kernel_rfl)) (Orc.cons (by kernel_rfl) (ref11_Solve_l5_se_ok K [(0, 198)] (by kernel_rfl)) (Orc.cons (by kernel_rfl) (ref11_Solve_s6_se_ok K [(0, 198)] (by kernel_rfl)) (Orc.cons (by kernel_rfl) (ref11_Solve_l7_se_ok K [(0, 198)] (by kernel_rfl)) (Orc.cons (by kernel_rfl) (ref11_Solve_l8_se_ok K [(0, 198)] (by kernel_rfl)) (Orc.cons (by kernel_rfl) (ref11_Solve_l9_se_ok K [(0, 198)] (by kernel_rfl)) (Orc.nil _ _ _))))))))))) (fun _ _ => by kernel_rfl) x w y w2 h
noncomputable def ref11_Solve_ce (K : Nat) : CE := funE [(0, .sl)] [.sl, .bool] (fun x w => ref11_Solve K x.1 w)
theorem ref11_Solve_ok (K : Nat) : (ref11_Solve_ce K).Ok prog 84 := funE_ok (Rt := [.sl, .bool]) (S := (fun x w => ref11_Solve K x.1 w)) ref11_Solve_facts fun x w y w2 h => ref11_Solve_calls K x w y w2 h

noncomputable def ref11_Coded_E (K : Nat) : List (Nat × CE) := [(103, ref11_Sums_ce K), (104, ref11_Powers_ce K), (84, ref11_Solve_ce K)]
theorem ref11_Coded_Eok (K : Nat) : Env.Ok prog (tab (ref11_Coded_E K)) := (Env.cons (ref11_Sums_ok K) (Env.cons (ref11_Powers_ok K) (Env.cons (ref11_Solve_ok K) (Env.nil _))))
noncomputable def ref11_Coded_R (K : Nat) : List (Nat × RE) := []
theorem ref11_Coded_Rok (K : Nat) : REnv.Ok prog (tab (ref11_Coded_R K)) := (REnv.nil _)
noncomputable def ref11_Coded_l0_b (K : Nat) (rec : Sl → Addr → Sl → Sl → Int → World → Option ((Sl × Unit) × World)) (b0 : Sl) (s4 : Addr) (p5 : Sl) (m6 : Sl) (j7 : Int) (w : World) : Option ((Sl × Unit) × World) :=
  if (decide (j7 < 4)) = true then ((p5.a).bind fun p_16 =>
  if (0 : Int) ≤ (IntKind.i64.wrap (3 * j7)) ∧ (IntKind.i64.wrap (3 * j7)) < ((p5.len : Nat) : Int) then ((p5.a).bind fun p_17 =>
  if (0 : Int) ≤ (IntKind.i64.wrap (2 * j7)) ∧ (IntKind.i64.wrap (2 * j7)) < ((p5.len : Nat) : Int) then ((p5.a).bind fun p_18 =>
  if (0 : Int) ≤ j7 ∧ j7 < ((p5.len : Nat) : Int) then (if (0 : Int) ≤ j7 ∧ j7 < ((4 : Nat) : Int) then ((ldI .u8 (p_16.add ((Int.toNat (IntKind.i64.wrap (3 * j7))) * 1)) w.drew).bind fun v_19 =>
  (ldI .u8 (p_17.add ((Int.toNat (IntKind.i64.wrap (2 * j7))) * 1)) w.drew).bind fun v_20 =>
  (ldI .u8 (p_18.add ((Int.toNat j7) * 1)) w.drew).bind fun v_21 =>
  (ldI .u8 (s4.add ((Int.toNat j7) * 1)) w.drew).bind fun v_22 =>
  bnd (bldS prog 23 5 #[(0, (.int .u8 v_19)), (1, (.int .u8 v_20)), (2, (.int .u8 v_21)), (3, (.int .u8 1)), (4, (.int .u8 v_22))] w.drew) fun s_23 w_24 =>
  bnd (bldS prog 67 1 #[(0, (.slice s_23.a s_23.len s_23.cap))] w_24) fun s_25 w_26 =>
  bnd (apd prog 67 67 (.slice m6.a m6.len m6.cap) (.slice s_25.a s_25.len s_25.cap) w_26) fun s_27 w_28 =>
  rec b0 s4 p5 s_27 (IntKind.i64.wrap (j7 + 1)) w_28) else none) else none) else none) else none) else (some ((m6, ()), w))
noncomputable def ref11_Coded_l0 (K : Nat) (n : Nat) : Sl → Addr → Sl → Sl → Int → World → Option ((Sl × Unit) × World) := iter (fun _ _ _ _ _ _ => none) (ref11_Coded_l0_b K) n
/-- coffer/cofferref11.Coded -/
noncomputable def ref11_Coded (K : Nat) (b0 : Sl) (w : World) : Option ((Sl × Unit) × World) :=
  bnd (bldS prog 23 0 #[] w) fun s_1 w_2 =>
  bnd (apd prog 23 23 (.slice s_1.a s_1.len s_1.cap) (.slice b0.a b0.len b0.cap) w_2) fun s_3 w_4 =>
  bnd (bldS prog 23 4 #[(0, (.int .u8 0)), (1, (.int .u8 0)), (2, (.int .u8 0)), (3, (.int .u8 0))] w_4) fun s_5 w_6 =>
  bnd (apd prog 23 23 (.slice s_3.a s_3.len s_3.cap) (.slice s_5.a s_5.len s_5.cap) w_6) fun s_7 w_8 =>
  bnd (ref11_Sums K s_7 w_8) fun r_9 w_10 =>
  bnd (newB z153 153 w_10) fun s_11 w_12 =>
  if (r_9.1).size = 4 then ((stA s_11 r_9.1 w_12).bind fun w_13 =>
  bnd (ref11_Powers K 255 w_13) fun r_14 w_15 =>
  bnd (ref11_Coded_l0 K K b0 s_11 r_14.1 ⟨none, 0, 0⟩ 0 w_15) fun y_29 w_30 =>
  bnd (ref11_Solve K y_29.1 w_30) fun r_31 w_32 =>
  bnd (bldS prog 23 0 #[] w_32) fun s_33 w_34 =>
  bnd (apd prog 23 23 (.slice s_33.a s_33.len s_33.cap) (.slice b0.a b0.len b0.cap) w_34) fun s_35 w_36 =>
  bnd (apd prog 23 23 (.slice s_35.a s_35.len s_35.cap) (.slice r_31.1.a r_31.1.len r_31.1.cap) w_36) fun s_37 w_38 =>
  some ((s_37, ()), w_38)) else none
theorem ref11_Coded_l0_ok (K : Nat) (n : Nat) : StmtNOk prog [(0, .sl), (4, .addr), (5, .sl), (6, .sl), (7, .int .i64)] [(6, .sl)] [(6, 8), (18, 43)] ((fun n x w => ref11_Coded_l0 K n x.1 x.2.1 x.2.2.1 x.2.2.2.1 x.2.2.2.2.1 w) n) (.block 0 (.loop (cd (bodyOf f78) [1, 1, 1, 1, 1, 0, 1, 0, 0]))) :=
    mk_loopN (O := tabL []) (root := (bodyOf f78)) (π := [1, 1, 1, 1, 1, 0, 1, 0, 0]) (id := 0) (Li := [(0, .sl), (4, .addr), (5, .sl), (6, .sl), (7, .int .i64)]) (Lo := [(6, .sl)]) (S := (fun n x w => ref11_Coded_l0 K n x.1 x.2.1 x.2.2.1 x.2.2.2.1 x.2.2.2.2.1 w)) (body := cd (bodyOf f78) [1, 1, 1, 1, 1, 0, 1, 0, 0]) (ref11_Coded_Eok K) (ref11_Coded_Rok K) rfl (Orc.nil _ _ _) (by kernel_rfl) (fun _ _ => by kernel_rfl) (fun _ _ _ => by kernel_rfl) n
noncomputable def ref11_Coded_l0_se (K : Nat) : SE := stmtN [(0, .sl), (4, .addr), (5, .sl), (6, .sl), (7, .int .i64)] [(6, .sl)] [(6, 8), (18, 43)] (fun x w => ref11_Coded_l0 K K x.1 x.2.1 x.2.2.1 x.2.2.2.1 x.2.2.2.2.1 w)
theorem ref11_Coded_l0_se_ok (K : Nat) (R : Rg) (h : subRB [(6, 8), (18, 43)] R = true) : (ref11_Coded_l0_se K).Ok prog R (.block 0 (.loop (cd (bodyOf f78) [1, 1, 1, 1, 1, 0, 1, 0, 0]))) := stmtN_ok (Li := [(0, .sl), (4, .addr), (5, .sl), (6, .sl), (7, .int .i64)]) (Lo := [(6, .sl)]) (S := (fun x w => ref11_Coded_l0 K K x.1 x.2.1 x.2.2.1 x.2.2.2.1 x.2.2.2.2.1 w)) (ref11_Coded_l0_ok K K) (subR_of h)
theorem ref11_Coded_facts : FunFacts prog 78 f78 (bodyOf f78) [(0, .sl)] [(0, 53)] := ⟨func78, by kernel_rfl, by kernel_rfl, by kernel_rfl, by kernel_rfl, by kernel_rfl⟩
theorem ref11_Coded_calls (K : Nat) (x : TT [(0, .sl)]) (w : World) (y : TR [.sl]) (w2 : World) (h : ref11_Coded K x.1 w = some (y, w2)) : Calls prog 78 (encA [(0, .sl)] x).toArray w (fun e w3 => e = .returned (resV (encR [.sl] y)) ∧ w3 = w2) :=
    mk_fun (O := tabL [([1, 1, 1, 1, 1, 0, 1], ref11_Coded_l0_se K)]) (Lp := [(0, .sl)]) (Rt := [.sl]) (S := (fun x w => ref11_Coded K x.1 w)) (ref11_Coded_Eok K) (ref11_Coded_Rok K) rfl ref11_Coded_facts (Orc.cons (by kernel_rfl) (ref11_Coded_l0_se_ok K [(0, 53)] (by kernel_rfl)) (Orc.nil _ _ _)) (fun _ _ => by kernel_rfl) x w y w2 h
noncomputable def ref11_Coded_ce (K : Nat) : CE := funE [(0, .sl)] [.sl] (fun x w => ref11_Coded K x.1 w)
theorem ref11_Coded_ok (K : Nat) : (ref11_Coded_ce K).Ok prog 78 := funE_ok (Rt := [.sl]) (S := (fun x w => ref11_Coded K x.1 w)) ref11_Coded_facts fun x w y w2 h => ref11_Coded_calls K x w y w2 h

noncomputable def ref11_Bytes_E (K : Nat) : List (Nat × CE) := [(78, ref11_Coded_ce K)]
theorem ref11_Bytes_Eok (K : Nat) : Env.Ok prog (tab (ref11_Bytes_E K)) := (Env.cons (ref11_Coded_ok K) (Env.nil _))
noncomputable def ref11_Bytes_R (K : Nat) : List (Nat × RE) := []
theorem ref11_Bytes_Rok (K : Nat) : REnv.Ok prog (tab (ref11_Bytes_R K)) := (REnv.nil _)
/-- coffer/cofferref11.Bytes -/
noncomputable def ref11_Bytes (K : Nat) (s0 : Array Value) (values1 : Sl) (w : World) : Option ((Sl × Unit) × World) :=
  bnd (newB s0 84 w) fun p_1 w_2 =>
  (ldI .u16 (p_1.add 0) w_2).bind fun v_3 =>
  (ldI .u16 (p_1.add 0) w_2).bind fun v_4 =>
  (ldI .i64 (p_1.add 1) w_2).bind fun v_5 =>
  (ldI .i64 (p_1.add 2) w_2).bind fun v_6 =>
  (ldI .i64 (p_1.add 3) w_2).bind fun v_7 =>
  bnd (bldS prog 23 5 #[(0, (.int .u8 (IntKind.u8.wrap (IntKind.u16.wrap (Int.tdiv v_3 256))))), (1, (.int .u8 (IntKind.u8.wrap (Int.tmod v_4 256)))), (2, (.int .u8 (IntKind.u8.wrap v_5))), (3, (.int .u8 (IntKind.u8.wrap v_6))), (4, (.int .u8 (IntKind.u8.wrap v_7)))] w_2) fun s_8 w_9 =>
  bnd (apd prog 23 23 (.slice s_8.a s_8.len s_8.cap) (.slice values1.a values1.len values1.cap) w_9) fun s_10 w_11 =>
  if ((Int.tmod ((s_10.len : Nat) : Int) 2) == 1) = true then (bnd (bldS prog 23 1 #[(0, (.int .u8 0))] w_11) fun s_12 w_13 =>
  bnd (apd prog 23 23 (.slice s_10.a s_10.len s_10.cap) (.slice s_12.a s_12.len s_12.cap) w_13) fun s_14 w_15 =>
  bnd (ref11_Coded K s_14 w_15) fun r_16 w_17 =>
  some ((r_16.1, ()), w_17)) else (bnd (ref11_Coded K s_10 w_11) fun r_18 w_19 =>
  some ((r_18.1, ()), w_19))
theorem ref11_Bytes_facts : FunFacts prog 50 f50 (bodyOf f50) [(0, .agg), (1, .sl)] [(0, 36)] := ⟨func50, by kernel_rfl, by kernel_rfl, by kernel_rfl, by kernel_rfl, by kernel_rfl⟩
theorem ref11_Bytes_calls (K : Nat) (x : TT [(0, .agg), (1, .sl)]) (w : World) (y : TR [.sl]) (w2 : World) (h : ref11_Bytes K x.1 x.2.1 w = some (y, w2)) : Calls prog 50 (encA [(0, .agg), (1, .sl)] x).toArray w (fun e w3 => e = .returned (resV (encR [.sl] y)) ∧ w3 = w2) :=
    mk_fun (O := tabL []) (Lp := [(0, .agg), (1, .sl)]) (Rt := [.sl]) (S := (fun x w => ref11_Bytes K x.1 x.2.1 w)) (ref11_Bytes_Eok K) (ref11_Bytes_Rok K) rfl ref11_Bytes_facts (Orc.nil _ _ _) (fun _ _ => by kernel_rfl) x w y w2 h
noncomputable def ref11_Bytes_ce (K : Nat) : CE := funE [(0, .agg), (1, .sl)] [.sl] (fun x w => ref11_Bytes K x.1 x.2.1 w)
theorem ref11_Bytes_ok (K : Nat) : (ref11_Bytes_ce K).Ok prog 50 := funE_ok (Rt := [.sl]) (S := (fun x w => ref11_Bytes K x.1 x.2.1 w)) ref11_Bytes_facts fun x w y w2 h => ref11_Bytes_calls K x w y w2 h

noncomputable def ref11_Words_E (K : Nat) : List (Nat × CE) := []
theorem ref11_Words_Eok (K : Nat) : Env.Ok prog (tab (ref11_Words_E K)) := (Env.nil _)
noncomputable def ref11_Words_R (K : Nat) : List (Nat × RE) := []
theorem ref11_Words_Rok (K : Nat) : REnv.Ok prog (tab (ref11_Words_R K)) := (REnv.nil _)
noncomputable def ref11_Words_s1 (K : Nat) (s3 : ByteArray) (a47 : Bool) (w : World) : Option ((ByteArray × Unit) × World) :=
  if a47 = true then (if s3.size + str3.size ≤ 9223372036854775807 then (some (((s3 ++ str3), ()), w)) else none) else (some ((s3, ()), w))
noncomputable def ref11_Words_l0_b (K : Nat) (rec : Sl → ByteArray → Int → World → Option ((ByteArray × Unit) × World)) (b0 : Sl) (s3 : ByteArray) (i4 : Int) (w : World) : Option ((ByteArray × Unit) × World) :=
  if (decide ((IntKind.i64.wrap (i4 + 1)) < ((b0.len : Nat) : Int))) = true then ((b0.a).bind fun p_1 =>
  if (0 : Int) ≤ i4 ∧ i4 < ((b0.len : Nat) : Int) then ((b0.a).bind fun p_2 =>
  if (0 : Int) ≤ (IntKind.i64.wrap (i4 + 1)) ∧ (IntKind.i64.wrap (i4 + 1)) < ((b0.len : Nat) : Int) then ((ldI .u8 (p_1.add ((Int.toNat i4) * 1)) w.drew).bind fun v_3 =>
  (ldI .u8 (p_2.add ((Int.toNat (IntKind.i64.wrap (i4 + 1))) * 1)) w.drew).bind fun v_4 =>
  if (0 : Int) ≤ (IntKind.i64.wrap (Int.tdiv (IntKind.i64.wrap ((IntKind.i64.wrap ((IntKind.i64.wrap v_3) * 256)) + (IntKind.i64.wrap v_4))) 4096)) then ((str1[(Int.toNat (IntKind.i64.wrap (Int.tdiv (IntKind.i64.wrap ((IntKind.i64.wrap ((IntKind.i64.wrap v_3) * 256)) + (IntKind.i64.wrap v_4))) 4096)))]?).bind fun b_5 =>
  if (0 : Int) ≤ (Int.tmod (IntKind.i64.wrap (Int.tdiv (IntKind.i64.wrap ((IntKind.i64.wrap ((IntKind.i64.wrap v_3) * 256)) + (IntKind.i64.wrap v_4))) 1024)) 4) then ((str2[(Int.toNat (Int.tmod (IntKind.i64.wrap (Int.tdiv (IntKind.i64.wrap ((IntKind.i64.wrap ((IntKind.i64.wrap v_3) * 256)) + (IntKind.i64.wrap v_4))) 1024)) 4))]?).bind fun b_6 =>
  if (0 : Int) ≤ (Int.tmod (IntKind.i64.wrap (Int.tdiv (IntKind.i64.wrap ((IntKind.i64.wrap ((IntKind.i64.wrap v_3) * 256)) + (IntKind.i64.wrap v_4))) 64)) 16) then ((str1[(Int.toNat (Int.tmod (IntKind.i64.wrap (Int.tdiv (IntKind.i64.wrap ((IntKind.i64.wrap ((IntKind.i64.wrap v_3) * 256)) + (IntKind.i64.wrap v_4))) 64)) 16))]?).bind fun b_7 =>
  if (0 : Int) ≤ (Int.tmod (IntKind.i64.wrap (Int.tdiv (IntKind.i64.wrap ((IntKind.i64.wrap ((IntKind.i64.wrap v_3) * 256)) + (IntKind.i64.wrap v_4))) 16)) 4) then ((str2[(Int.toNat (Int.tmod (IntKind.i64.wrap (Int.tdiv (IntKind.i64.wrap ((IntKind.i64.wrap ((IntKind.i64.wrap v_3) * 256)) + (IntKind.i64.wrap v_4))) 16)) 4))]?).bind fun b_8 =>
  if (0 : Int) ≤ (Int.tmod (IntKind.i64.wrap ((IntKind.i64.wrap ((IntKind.i64.wrap v_3) * 256)) + (IntKind.i64.wrap v_4))) 16) then ((str1[(Int.toNat (Int.tmod (IntKind.i64.wrap ((IntKind.i64.wrap ((IntKind.i64.wrap v_3) * 256)) + (IntKind.i64.wrap v_4))) 16))]?).bind fun b_9 =>
  bnd (bldS prog 23 5 #[(0, (.int .u8 ((b_5.toNat : Nat) : Int))), (1, (.int .u8 ((b_6.toNat : Nat) : Int))), (2, (.int .u8 ((b_7.toNat : Nat) : Int))), (3, (.int .u8 ((b_8.toNat : Nat) : Int))), (4, (.int .u8 ((b_9.toNat : Nat) : Int)))] w.drew.drew) fun s_10 w_11 =>
  bnd (ref11_Words_s1 K s3 (decide (i4 > 0)) w_11) fun y_12 w_13 =>
  (b2sQ prog s_10.a s_10.len s_10.cap w_13).bind fun c_14 =>
  if y_12.1.size + c_14.size ≤ 9223372036854775807 then (rec b0 (y_12.1 ++ c_14) (IntKind.i64.wrap (i4 + 2)) w_13) else none) else none) else none) else none) else none) else none) else none) else none) else (some ((s3, ()), w))
noncomputable def ref11_Words_l0 (K : Nat) (n : Nat) : Sl → ByteArray → Int → World → Option ((ByteArray × Unit) × World) := iter (fun _ _ _ _ => none) (ref11_Words_l0_b K) n
/-- coffer/cofferref11.Words -/
noncomputable def ref11_Words (K : Nat) (b0 : Sl) (w : World) : Option ((ByteArray × Unit) × World) :=
  bnd (ref11_Words_l0 K K b0 str0 0 w) fun y_15 w_16 =>
  some ((y_15.1, ()), w_16)
theorem ref11_Words_s1_ok (K : Nat) : StmtNOk prog [(3, .str), (47, .bool)] [(3, .str)] [(3, 4), (48, 50)] (fun x w => ref11_Words_s1 K x.1 x.2.1 w) (cd (bodyOf f49) [1, 1, 0, 1, 0, 0, 1, 0, 0, 1, 1, 0, 1]) :=
    mk_stmtN (O := tabL []) (root := (bodyOf f49)) (π := [1, 1, 0, 1, 0, 0, 1, 0, 0, 1, 1, 0, 1]) (Li := [(3, .str), (47, .bool)]) (Lo := [(3, .str)]) (S := (fun x w => ref11_Words_s1 K x.1 x.2.1 w)) (ref11_Words_Eok K) (ref11_Words_Rok K) rfl (Orc.nil _ _ _) (by kernel_rfl) (fun _ _ => by kernel_rfl)
noncomputable def ref11_Words_s1_se (K : Nat) : SE := stmtN [(3, .str), (47, .bool)] [(3, .str)] [(3, 4), (48, 50)] (fun x w => ref11_Words_s1 K x.1 x.2.1 w)
theorem ref11_Words_s1_se_ok (K : Nat) (R : Rg) (h : subRB [(3, 4), (48, 50)] R = true) : (ref11_Words_s1_se K).Ok prog R (cd (bodyOf f49) [1, 1, 0, 1, 0, 0, 1, 0, 0, 1, 1, 0, 1]) := stmtN_ok (Li := [(3, .str), (47, .bool)]) (Lo := [(3, .str)]) (S := (fun x w => ref11_Words_s1 K x.1 x.2.1 w)) (ref11_Words_s1_ok K) (subR_of h)
theorem ref11_Words_l0_ok (K : Nat) (n : Nat) : StmtNOk prog [(0, .sl), (3, .str), (4, .int .i64)] [(3, .str)] [(3, 54)] ((fun n x w => ref11_Words_l0 K n x.1 x.2.1 x.2.2.1 w) n) (.block 0 (.loop (cd (bodyOf f49) [1, 1, 0, 1, 0, 0]))) :=
    mk_loopN (O := tabL [([1, 1, 0, 1, 0, 0, 1, 0, 0, 1, 1, 0, 1], ref11_Words_s1_se K)]) (root := (bodyOf f49)) (π := [1, 1, 0, 1, 0, 0]) (id := 0) (Li := [(0, .sl), (3, .str), (4, .int .i64)]) (Lo := [(3, .str)]) (S := (fun n x w => ref11_Words_l0 K n x.1 x.2.1 x.2.2.1 w)) (body := cd (bodyOf f49) [1, 1, 0, 1, 0, 0]) (ref11_Words_Eok K) (ref11_Words_Rok K) rfl (Orc.cons (by kernel_rfl) (ref11_Words_s1_se_ok K [(3, 54)] (by kernel_rfl)) (Orc.nil _ _ _)) (by kernel_rfl) (fun _ _ => by kernel_rfl) (fun _ _ _ => by kernel_rfl) n
noncomputable def ref11_Words_l0_se (K : Nat) : SE := stmtN [(0, .sl), (3, .str), (4, .int .i64)] [(3, .str)] [(3, 54)] (fun x w => ref11_Words_l0 K K x.1 x.2.1 x.2.2.1 w)
theorem ref11_Words_l0_se_ok (K : Nat) (R : Rg) (h : subRB [(3, 54)] R = true) : (ref11_Words_l0_se K).Ok prog R (.block 0 (.loop (cd (bodyOf f49) [1, 1, 0, 1, 0, 0]))) := stmtN_ok (Li := [(0, .sl), (3, .str), (4, .int .i64)]) (Lo := [(3, .str)]) (S := (fun x w => ref11_Words_l0 K K x.1 x.2.1 x.2.2.1 w)) (ref11_Words_l0_ok K K) (subR_of h)
theorem ref11_Words_facts : FunFacts prog 49 f49 (bodyOf f49) [(0, .sl)] [(0, 55)] := ⟨func49, by kernel_rfl, by kernel_rfl, by kernel_rfl, by kernel_rfl, by kernel_rfl⟩
theorem ref11_Words_calls (K : Nat) (x : TT [(0, .sl)]) (w : World) (y : TR [.str]) (w2 : World) (h : ref11_Words K x.1 w = some (y, w2)) : Calls prog 49 (encA [(0, .sl)] x).toArray w (fun e w3 => e = .returned (resV (encR [.str] y)) ∧ w3 = w2) :=
    mk_fun (O := tabL [([1, 1, 0, 1], ref11_Words_l0_se K), ([1, 1, 0, 1, 0, 0, 1, 0, 0, 1, 1, 0, 1], ref11_Words_s1_se K)]) (Lp := [(0, .sl)]) (Rt := [.str]) (S := (fun x w => ref11_Words K x.1 w)) (ref11_Words_Eok K) (ref11_Words_Rok K) rfl ref11_Words_facts (Orc.cons (by kernel_rfl) (ref11_Words_l0_se_ok K [(0, 55)] (by kernel_rfl)) (Orc.cons (by kernel_rfl) (ref11_Words_s1_se_ok K [(0, 55)] (by kernel_rfl)) (Orc.nil _ _ _))) (fun _ _ => by kernel_rfl) x w y w2 h
noncomputable def ref11_Words_ce (K : Nat) : CE := funE [(0, .sl)] [.str] (fun x w => ref11_Words K x.1 w)
theorem ref11_Words_ok (K : Nat) : (ref11_Words_ce K).Ok prog 49 := funE_ok (Rt := [.str]) (S := (fun x w => ref11_Words K x.1 w)) ref11_Words_facts fun x w y w2 h => ref11_Words_calls K x w y w2 h

end Go.Sh

/- What functions of the program do, as Lean functions; that the machine does just that. Printed by shal.py, a program of this claim's writer. -/
set_option maxRecDepth 100000
set_option linter.unusedVariables false
namespace Go.Sh
open Go.Fw Go.Proofs.Tryd

noncomputable def ref11_Deal_E (K : Nat) : List (Nat × CE) := [(47, ref11_Row_ce K), (48, ref11_Value_ce K), (50, ref11_Bytes_ce K), (49, ref11_Words_ce K)]
theorem ref11_Deal_Eok (K : Nat) : Env.Ok prog (tab (ref11_Deal_E K)) := (Env.cons (ref11_Row_ok K) (Env.cons (ref11_Value_ok K) (Env.cons (ref11_Bytes_ok K) (Env.cons (ref11_Words_ok K) (Env.nil _)))))
noncomputable def ref11_Deal_R (K : Nat) : List (Nat × RE) := [(46, ref11_may_re), (18, ref11_Random_re)]
theorem ref11_Deal_Rok (K : Nat) : REnv.Ok prog (tab (ref11_Deal_R K)) := (REnv.cons (ref11_may_ok) (REnv.cons (ref11_Random_ok) (REnv.nil _)))
noncomputable def ref11_Deal_l2_b (K : Nat) (rec : Int → Sl → Int → Int → Sl → Sl → Sl → Int → Sl → Int → Sl → Int → World → Option ((Sl × Unit) × World)) (set0 : Int) (secret1 : Sl) (need2 : Int) (count3 : Int) (random4 : Sl) (t13 : Sl) (out14 : Sl) (x15 : Int) (values16 : Sl) (i17 : Int) (l18 : Sl) (j19 : Int) (w : World) : Option ((Sl × Unit) × World) :=
  if (decide (j19 < need2)) = true then ((random4.a).bind fun p_9 =>
  if (0 : Int) ≤ (IntKind.i64.wrap ((IntKind.i64.wrap ((IntKind.i64.wrap (j19 - 1)) * ((t13.len : Nat) : Int))) + i17)) ∧ (IntKind.i64.wrap ((IntKind.i64.wrap ((IntKind.i64.wrap (j19 - 1)) * ((t13.len : Nat) : Int))) + i17)) < ((random4.len : Nat) : Int) then ((ldI .u8 (p_9.add ((Int.toNat (IntKind.i64.wrap ((IntKind.i64.wrap ((IntKind.i64.wrap (j19 - 1)) * ((t13.len : Nat) : Int))) + i17))) * 1)) w).bind fun v_10 =>
  bnd (bldS prog 23 1 #[(0, (.int .u8 v_10))] w) fun s_11 w_12 =>
  bnd (apd prog 23 23 (.slice l18.a l18.len l18.cap) (.slice s_11.a s_11.len s_11.cap) w_12) fun s_13 w_14 =>
  rec set0 secret1 need2 count3 random4 t13 out14 x15 values16 i17 s_13 (IntKind.i64.wrap (j19 + 1)) w_14) else none) else (some ((l18, ()), w))
noncomputable def ref11_Deal_l2 (K : Nat) (n : Nat) : Int → Sl → Int → Int → Sl → Sl → Sl → Int → Sl → Int → Sl → Int → World → Option ((Sl × Unit) × World) := iter (fun _ _ _ _ _ _ _ _ _ _ _ _ _ => none) (ref11_Deal_l2_b K) n
noncomputable def ref11_Deal_l1_b (K : Nat) (rec : Int → Sl → Int → Int → Sl → Sl → Sl → Int → Sl → Int → World → Option ((Sl × Unit) × World)) (set0 : Int) (secret1 : Sl) (need2 : Int) (count3 : Int) (random4 : Sl) (t13 : Sl) (out14 : Sl) (x15 : Int) (values16 : Sl) (i17 : Int) (w : World) : Option ((Sl × Unit) × World) :=
  if (decide (i17 < ((t13.len : Nat) : Int))) = true then ((t13.a).bind fun p_5 =>
  if (0 : Int) ≤ i17 ∧ i17 < ((t13.len : Nat) : Int) then ((ldI .u8 (p_5.add ((Int.toNat i17) * 1)) w).bind fun v_6 =>
  bnd (bldS prog 23 1 #[(0, (.int .u8 v_6))] w) fun s_7 w_8 =>
  bnd (ref11_Deal_l2 K K set0 secret1 need2 count3 random4 t13 out14 x15 values16 i17 s_7 1 w_8) fun y_15 w_16 =>
  bnd (ref11_Value K y_15.1 x15 w_16) fun r_17 w_18 =>
  bnd (bldS prog 23 1 #[(0, (.int .u8 r_17.1))] w_18) fun s_19 w_20 =>
  bnd (apd prog 23 23 (.slice values16.a values16.len values16.cap) (.slice s_19.a s_19.len s_19.cap) w_20) fun s_21 w_22 =>
  rec set0 secret1 need2 count3 random4 t13 out14 x15 s_21 (IntKind.i64.wrap (i17 + 1)) w_22) else none) else (some ((values16, ()), w))
noncomputable def ref11_Deal_l1 (K : Nat) (n : Nat) : Int → Sl → Int → Int → Sl → Sl → Sl → Int → Sl → Int → World → Option ((Sl × Unit) × World) := iter (fun _ _ _ _ _ _ _ _ _ _ _ => none) (ref11_Deal_l1_b K) n
noncomputable def ref11_Deal_l0_b (K : Nat) (rec : Int → Sl → Int → Int → Sl → Sl → Sl → Int → World → Option ((Sl × Unit) × World)) (set0 : Int) (secret1 : Sl) (need2 : Int) (count3 : Int) (random4 : Sl) (t13 : Sl) (out14 : Sl) (x15 : Int) (w : World) : Option ((Sl × Unit) × World) :=
  if (decide (x15 ≤ count3)) = true then (bnd (ref11_Deal_l1 K K set0 secret1 need2 count3 random4 t13 out14 x15 ⟨none, 0, 0⟩ 0 w) fun y_23 w_24 =>
  (prog.built 84 [(0, (.int .u16 set0)), (1, (.int .i64 need2)), (2, (.int .i64 x15)), (3, (.int .i64 ((secret1.len : Nat) : Int)))]).bind fun cs_25 =>
  bnd (ref11_Bytes K cs_25 y_23.1 w_24) fun r_26 w_27 =>
  bnd (ref11_Words K r_26.1 w_27) fun r_28 w_29 =>
  bnd (bldS prog 29 1 #[(0, (.string r_28.1))] w_29) fun s_30 w_31 =>
  bnd (apd prog 29 29 (.slice out14.a out14.len out14.cap) (.slice s_30.a s_30.len s_30.cap) w_31) fun s_32 w_33 =>
  rec set0 secret1 need2 count3 random4 t13 s_32 (IntKind.i64.wrap (x15 + 1)) w_33) else (some ((out14, ()), w))
noncomputable def ref11_Deal_l0 (K : Nat) (n : Nat) : Int → Sl → Int → Int → Sl → Sl → Sl → Int → World → Option ((Sl × Unit) × World) := iter (fun _ _ _ _ _ _ _ _ _ => none) (ref11_Deal_l0_b K) n
/-- coffer/cofferref11.Deal -/
noncomputable def ref11_Deal (K : Nat) (set0 : Int) (secret1 : Sl) (need2 : Int) (count3 : Int) (random4 : Sl) (w : World) : Option ((Sl × Int × Unit) × World) :=
  (ref11_may ((secret1.len : Nat) : Int) need2 count3).bind fun r_1 =>
  if (r_1.1 != 0) = true then (some ((⟨none, 0, 0⟩, r_1.1, ()), w)) else ((ref11_Random need2 ((secret1.len : Nat) : Int)).bind fun r_2 =>
  if (((random4.len : Nat) : Int) != r_2.1) = true then (some ((⟨none, 0, 0⟩, 5, ()), w)) else (bnd (ref11_Row K set0 secret1 w) fun r_3 w_4 =>
  bnd (ref11_Deal_l0 K K set0 secret1 need2 count3 random4 r_3.1 ⟨none, 0, 0⟩ 1 w_4) fun y_34 w_35 =>
  some ((y_34.1, 0, ()), w_35)))
theorem ref11_Deal_l2_ok (K : Nat) (n : Nat) : StmtNOk prog [(0, .int .u16), (1, .sl), (2, .int .i64), (3, .int .i64), (4, .sl), (13, .sl), (14, .sl), (15, .int .i64), (16, .sl), (17, .int .i64), (18, .sl), (19, .int .i64)] [(18, .sl)] [(18, 20), (54, 72)] ((fun n x w => ref11_Deal_l2 K n x.1 x.2.1 x.2.2.1 x.2.2.2.1 x.2.2.2.2.1 x.2.2.2.2.2.1 x.2.2.2.2.2.2.1 x.2.2.2.2.2.2.2.1 x.2.2.2.2.2.2.2.2.1 x.2.2.2.2.2.2.2.2.2.1 x.2.2.2.2.2.2.2.2.2.2.1 x.2.2.2.2.2.2.2.2.2.2.2.1 w) n) (.block 4 (.loop (cd (bodyOf f15) [1, 1, 1, 1, 1, 1, 0, 1, 0, 0, 1, 0, 0, 1, 0, 1, 0, 0, 1, 0, 0, 1, 0, 1, 0, 0]))) :=
    mk_loopN (O := tabL []) (root := (bodyOf f15)) (π := [1, 1, 1, 1, 1, 1, 0, 1, 0, 0, 1, 0, 0, 1, 0, 1, 0, 0, 1, 0, 0, 1, 0, 1, 0, 0]) (id := 4) (Li := [(0, .int .u16), (1, .sl), (2, .int .i64), (3, .int .i64), (4, .sl), (13, .sl), (14, .sl), (15, .int .i64), (16, .sl), (17, .int .i64), (18, .sl), (19, .int .i64)]) (Lo := [(18, .sl)]) (S := (fun n x w => ref11_Deal_l2 K n x.1 x.2.1 x.2.2.1 x.2.2.2.1 x.2.2.2.2.1 x.2.2.2.2.2.1 x.2.2.2.2.2.2.1 x.2.2.2.2.2.2.2.1 x.2.2.2.2.2.2.2.2.1 x.2.2.2.2.2.2.2.2.2.1 x.2.2.2.2.2.2.2.2.2.2.1 x.2.2.2.2.2.2.2.2.2.2.2.1 w)) (body := cd (bodyOf f15) [1, 1, 1, 1, 1, 1, 0, 1, 0, 0, 1, 0, 0, 1, 0, 1, 0, 0, 1, 0, 0, 1, 0, 1, 0, 0]) (ref11_Deal_Eok K) (ref11_Deal_Rok K) rfl (Orc.nil _ _ _) (by kernel_rfl) (fun _ _ => by kernel_rfl) (fun _ _ _ => by kernel_rfl) n
noncomputable def ref11_Deal_l2_se (K : Nat) : SE := stmtN [(0, .int .u16), (1, .sl), (2, .int .i64), (3, .int .i64), (4, .sl), (13, .sl), (14, .sl), (15, .int .i64), (16, .sl), (17, .int .i64), (18, .sl), (19, .int .i64)] [(18, .sl)] [(18, 20), (54, 72)] (fun x w => ref11_Deal_l2 K K x.1 x.2.1 x.2.2.1 x.2.2.2.1 x.2.2.2.2.1 x.2.2.2.2.2.1 x.2.2.2.2.2.2.1 x.2.2.2.2.2.2.2.1 x.2.2.2.2.2.2.2.2.1 x.2.2.2.2.2.2.2.2.2.1 x.2.2.2.2.2.2.2.2.2.2.1 x.2.2.2.2.2.2.2.2.2.2.2.1 w)
theorem ref11_Deal_l2_se_ok (K : Nat) (R : Rg) (h : subRB [(18, 20), (54, 72)] R = true) : (ref11_Deal_l2_se K).Ok prog R (.block 4 (.loop (cd (bodyOf f15) [1, 1, 1, 1, 1, 1, 0, 1, 0, 0, 1, 0, 0, 1, 0, 1, 0, 0, 1, 0, 0, 1, 0, 1, 0, 0]))) := stmtN_ok (Li := [(0, .int .u16), (1, .sl), (2, .int .i64), (3, .int .i64), (4, .sl), (13, .sl), (14, .sl), (15, .int .i64), (16, .sl), (17, .int .i64), (18, .sl), (19, .int .i64)]) (Lo := [(18, .sl)]) (S := (fun x w => ref11_Deal_l2 K K x.1 x.2.1 x.2.2.1 x.2.2.2.1 x.2.2.2.2.1 x.2.2.2.2.2.1 x.2.2.2.2.2.2.1 x.2.2.2.2.2.2.2.1 x.2.2.2.2.2.2.2.2.1 x.2.2.2.2.2.2.2.2.2.1 x.2.2.2.2.2.2.2.2.2.2.1 x.2.2.2.2.2.2.2.2.2.2.2.1 w)) (ref11_Deal_l2_ok K K) (subR_of h)
theorem ref11_Deal_l1_ok (K : Nat) (n : Nat) : StmtNOk prog [(0, .int .u16), (1, .sl), (2, .int .i64), (3, .int .i64), (4, .sl), (13, .sl), (14, .sl), (15, .int .i64), (16, .sl), (17, .int .i64)] [(16, .sl)] [(16, 20), (43, 78)] ((fun n x w => ref11_Deal_l1 K n x.1 x.2.1 x.2.2.1 x.2.2.2.1 x.2.2.2.2.1 x.2.2.2.2.2.1 x.2.2.2.2.2.2.1 x.2.2.2.2.2.2.2.1 x.2.2.2.2.2.2.2.2.1 x.2.2.2.2.2.2.2.2.2.1 w) n) (.block 2 (.loop (cd (bodyOf f15) [1, 1, 1, 1, 1, 1, 0, 1, 0, 0, 1, 0, 0, 1, 0, 1, 0, 0]))) :=
    mk_loopN (O := tabL [([1, 1, 1, 1, 1, 1, 0, 1, 0, 0, 1, 0, 0, 1, 0, 1, 0, 0, 1, 0, 0, 1, 0, 1], ref11_Deal_l2_se K)]) (root := (bodyOf f15)) (π := [1, 1, 1, 1, 1, 1, 0, 1, 0, 0, 1, 0, 0, 1, 0, 1, 0, 0]) (id := 2) (Li := [(0, .int .u16), (1, .sl), (2, .int .i64), (3, .int .i64), (4, .sl), (13, .sl), (14, .sl), (15, .int .i64), (16, .sl), (17, .int .i64)]) (Lo := [(16, .sl)]) (S := (fun n x w => ref11_Deal_l1 K n x.1 x.2.1 x.2.2.1 x.2.2.2.1 x.2.2.2.2.1 x.2.2.2.2.2.1 x.2.2.2.2.2.2.1 x.2.2.2.2.2.2.2.1 x.2.2.2.2.2.2.2.2.1 x.2.2.2.2.2.2.2.2.2.1 w)) (body := cd (bodyOf f15) [1, 1, 1, 1, 1, 1, 0, 1, 0, 0, 1, 0, 0, 1, 0, 1, 0, 0]) (ref11_Deal_Eok K) (ref11_Deal_Rok K) rfl (Orc.cons (by kernel_rfl) (ref11_Deal_l2_se_ok K [(16, 20), (43, 78)] (by kernel_rfl)) (Orc.nil _ _ _)) (by kernel_rfl) (fun _ _ => by kernel_rfl) (fun _ _ _ => by kernel_rfl) n
noncomputable def ref11_Deal_l1_se (K : Nat) : SE := stmtN [(0, .int .u16), (1, .sl), (2, .int .i64), (3, .int .i64), (4, .sl), (13, .sl), (14, .sl), (15, .int .i64), (16, .sl), (17, .int .i64)] [(16, .sl)] [(16, 20), (43, 78)] (fun x w => ref11_Deal_l1 K K x.1 x.2.1 x.2.2.1 x.2.2.2.1 x.2.2.2.2.1 x.2.2.2.2.2.1 x.2.2.2.2.2.2.1 x.2.2.2.2.2.2.2.1 x.2.2.2.2.2.2.2.2.1 x.2.2.2.2.2.2.2.2.2.1 w)
theorem ref11_Deal_l1_se_ok (K : Nat) (R : Rg) (h : subRB [(16, 20), (43, 78)] R = true) : (ref11_Deal_l1_se K).Ok prog R (.block 2 (.loop (cd (bodyOf f15) [1, 1, 1, 1, 1, 1, 0, 1, 0, 0, 1, 0, 0, 1, 0, 1, 0, 0]))) := stmtN_ok (Li := [(0, .int .u16), (1, .sl), (2, .int .i64), (3, .int .i64), (4, .sl), (13, .sl), (14, .sl), (15, .int .i64), (16, .sl), (17, .int .i64)]) (Lo := [(16, .sl)]) (S := (fun x w => ref11_Deal_l1 K K x.1 x.2.1 x.2.2.1 x.2.2.2.1 x.2.2.2.2.1 x.2.2.2.2.2.1 x.2.2.2.2.2.2.1 x.2.2.2.2.2.2.2.1 x.2.2.2.2.2.2.2.2.1 x.2.2.2.2.2.2.2.2.2.1 w)) (ref11_Deal_l1_ok K K) (subR_of h)
theorem ref11_Deal_l0_ok (K : Nat) (n : Nat) : StmtNOk prog [(0, .int .u16), (1, .sl), (2, .int .i64), (3, .int .i64), (4, .sl), (13, .sl), (14, .sl), (15, .int .i64)] [(14, .sl)] [(14, 20), (38, 90)] ((fun n x w => ref11_Deal_l0 K n x.1 x.2.1 x.2.2.1 x.2.2.2.1 x.2.2.2.2.1 x.2.2.2.2.2.1 x.2.2.2.2.2.2.1 x.2.2.2.2.2.2.2.1 w) n) (.block 0 (.loop (cd (bodyOf f15) [1, 1, 1, 1, 1, 1, 0, 1, 0, 0]))) :=
    mk_loopN (O := tabL [([1, 1, 1, 1, 1, 1, 0, 1, 0, 0, 1, 0, 0, 1, 0, 1], ref11_Deal_l1_se K), ([1, 1, 1, 1, 1, 1, 0, 1, 0, 0, 1, 0, 0, 1, 0, 1, 0, 0, 1, 0, 0, 1, 0, 1], ref11_Deal_l2_se K)]) (root := (bodyOf f15)) (π := [1, 1, 1, 1, 1, 1, 0, 1, 0, 0]) (id := 0) (Li := [(0, .int .u16), (1, .sl), (2, .int .i64), (3, .int .i64), (4, .sl), (13, .sl), (14, .sl), (15, .int .i64)]) (Lo := [(14, .sl)]) (S := (fun n x w => ref11_Deal_l0 K n x.1 x.2.1 x.2.2.1 x.2.2.2.1 x.2.2.2.2.1 x.2.2.2.2.2.1 x.2.2.2.2.2.2.1 x.2.2.2.2.2.2.2.1 w)) (body := cd (bodyOf f15) [1, 1, 1, 1, 1, 1, 0, 1, 0, 0]) (ref11_Deal_Eok K) (ref11_Deal_Rok K) rfl (Orc.cons (by kernel_rfl) (ref11_Deal_l1_se_ok K [(14, 20), (38, 90)] (by kernel_rfl)) (Orc.cons (by kernel_rfl) (ref11_Deal_l2_se_ok K [(14, 20), (38, 90)] (by kernel_rfl)) (Orc.nil _ _ _))) (by kernel_rfl) (fun _ _ => by kernel_rfl) (fun _ _ _ => by kernel_rfl) n
noncomputable def ref11_Deal_l0_se (K : Nat) : SE := stmtN [(0, .int .u16), (1, .sl), (2, .int .i64), (3, .int .i64), (4, .sl), (13, .sl), (14, .sl), (15, .int .i64)] [(14, .sl)] [(14, 20), (38, 90)] (fun x w => ref11_Deal_l0 K K x.1 x.2.1 x.2.2.1 x.2.2.2.1 x.2.2.2.2.1 x.2.2.2.2.2.1 x.2.2.2.2.2.2.1 x.2.2.2.2.2.2.2.1 w)
theorem ref11_Deal_l0_se_ok (K : Nat) (R : Rg) (h : subRB [(14, 20), (38, 90)] R = true) : (ref11_Deal_l0_se K).Ok prog R (.block 0 (.loop (cd (bodyOf f15) [1, 1, 1, 1, 1, 1, 0, 1, 0, 0]))) := stmtN_ok (Li := [(0, .int .u16), (1, .sl), (2, .int .i64), (3, .int .i64), (4, .sl), (13, .sl), (14, .sl), (15, .int .i64)]) (Lo := [(14, .sl)]) (S := (fun x w => ref11_Deal_l0 K K x.1 x.2.1 x.2.2.1 x.2.2.2.1 x.2.2.2.2.1 x.2.2.2.2.2.1 x.2.2.2.2.2.2.1 x.2.2.2.2.2.2.2.1 w)) (ref11_Deal_l0_ok K K) (subR_of h)
theorem ref11_Deal_facts : FunFacts prog 15 f15 (bodyOf f15) [(0, .int .u16), (1, .sl), (2, .int .i64), (3, .int .i64), (4, .sl)] [(0, 91)] := ⟨func15, by kernel_rfl, by kernel_rfl, by kernel_rfl, by kernel_rfl, by kernel_rfl⟩
theorem ref11_Deal_calls (K : Nat) (x : TT [(0, .int .u16), (1, .sl), (2, .int .i64), (3, .int .i64), (4, .sl)]) (w : World) (y : TR [.sl, .int .i64]) (w2 : World) (h : ref11_Deal K x.1 x.2.1 x.2.2.1 x.2.2.2.1 x.2.2.2.2.1 w = some (y, w2)) : Calls prog 15 (encA [(0, .int .u16), (1, .sl), (2, .int .i64), (3, .int .i64), (4, .sl)] x).toArray w (fun e w3 => e = .returned (resV (encR [.sl, .int .i64] y)) ∧ w3 = w2) :=
    mk_fun (O := tabL [([1, 1, 1, 1, 1, 1, 0, 1], ref11_Deal_l0_se K), ([1, 1, 1, 1, 1, 1, 0, 1, 0, 0, 1, 0, 0, 1, 0, 1], ref11_Deal_l1_se K), ([1, 1, 1, 1, 1, 1, 0, 1, 0, 0, 1, 0, 0, 1, 0, 1, 0, 0, 1, 0, 0, 1, 0, 1], ref11_Deal_l2_se K)]) (Lp := [(0, .int .u16), (1, .sl), (2, .int .i64), (3, .int .i64), (4, .sl)]) (Rt := [.sl, .int .i64]) (S := (fun x w => ref11_Deal K x.1 x.2.1 x.2.2.1 x.2.2.2.1 x.2.2.2.2.1 w)) (ref11_Deal_Eok K) (ref11_Deal_Rok K) rfl ref11_Deal_facts (Orc.cons (by kernel_rfl) (ref11_Deal_l0_se_ok K [(0, 91)] (by kernel_rfl)) (Orc.cons (by kernel_rfl) (ref11_Deal_l1_se_ok K [(0, 91)] (by kernel_rfl)) (Orc.cons (by kernel_rfl) (ref11_Deal_l2_se_ok K [(0, 91)] (by kernel_rfl)) (Orc.nil _ _ _)))) (fun _ _ => by kernel_rfl) x w y w2 h
noncomputable def ref11_Deal_ce (K : Nat) : CE := funE [(0, .int .u16), (1, .sl), (2, .int .i64), (3, .int .i64), (4, .sl)] [.sl, .int .i64] (fun x w => ref11_Deal K x.1 x.2.1 x.2.2.1 x.2.2.2.1 x.2.2.2.2.1 w)
theorem ref11_Deal_ok (K : Nat) : (ref11_Deal_ce K).Ok prog 15 := funE_ok (Rt := [.sl, .int .i64]) (S := (fun x w => ref11_Deal K x.1 x.2.1 x.2.2.1 x.2.2.2.1 x.2.2.2.2.1 w)) ref11_Deal_facts fun x w y w2 h => ref11_Deal_calls K x w y w2 h

noncomputable def escrow_may_R : List (Nat × RE) := []
theorem escrow_may_Rok : REnv.Ok prog (tab (escrow_may_R)) := (REnv.nil _)
noncomputable def escrow_may_s0 (secret0 : Sl) : Option (Out (Bool × Unit) (Int × Unit)) :=
  if (decide (((secret0.len : Nat) : Int) < 1)) = true then (some (.norm (true, ()))) else (some (.norm ((decide (((secret0.len : Nat) : Int) > 64)), ())))
/-- coffer/escrow.may -/
noncomputable def escrow_may (secret0 : Sl) (need1 : Int) (count2 : Int) : Option (Int × Unit) :=
  (escrow_may_s0 secret0).bind fun y_1 =>
  (match y_1 with
  | .norm z_2n => (if z_2n.1 = true then (some (111, ())) else (if (decide (need1 < 1)) = true then (some (110, ())) else (if (decide (need1 > 16)) = true then (some (110, ())) else (if (decide (count2 < need1)) = true then (some (110, ())) else (if (decide (count2 > 255)) = true then (some (110, ())) else (some (0, ())))))))
  | .ret z_2r => (some (z_2r.1, ())))
theorem escrow_may_s0_ok : StmtQOk prog [(0, .sl)] [(7, .bool)] [(6, .int .i64)] [(7, 16)] (fun x w => escrow_may_s0 x.1) (cd (bodyOf f51) [1, 0, 0, 0]) :=
    mk_stmtQ (O := tabL []) (root := (bodyOf f51)) (π := [1, 0, 0, 0]) (Li := [(0, .sl)]) (Lo := [(7, .bool)]) (Lr := [(6, .int .i64)]) (S := (fun x w => escrow_may_s0 x.1)) (escrow_may_Rok) (OrcQ.nil _ _ _) (by kernel_rfl) (fun _ _ => by kernel_rfl)
noncomputable def escrow_may_s0_se : SQ := stmtQ [(0, .sl)] [(7, .bool)] [(6, .int .i64)] [(7, 16)] (fun x w => escrow_may_s0 x.1)
theorem escrow_may_s0_se_ok (R : Rg) (h : subRB [(7, 16)] R = true) : (escrow_may_s0_se).Ok prog R (cd (bodyOf f51) [1, 0, 0, 0]) := stmtQ_ok (Li := [(0, .sl)]) (Lo := [(7, .bool)]) (Lr := [(6, .int .i64)]) (S := (fun x w => escrow_may_s0 x.1)) (escrow_may_s0_ok) (subR_of h)
theorem escrow_may_facts : FunFacts prog 51 f51 (bodyOf f51) [(0, .sl), (1, .int .i64), (2, .int .i64)] [(0, 32)] := ⟨func51, by kernel_rfl, by kernel_rfl, by kernel_rfl, by kernel_rfl, by kernel_rfl⟩
theorem escrow_may_calls (x : TT [(0, .sl), (1, .int .i64), (2, .int .i64)]) (w : World) (y : TR [.int .i64]) (h : escrow_may x.1 x.2.1 x.2.2.1 = some y) : Calls prog 51 (encA [(0, .sl), (1, .int .i64), (2, .int .i64)] x).toArray w (fun e w3 => e = .returned (resV (encR [.int .i64] y)) ∧ w3 = w) :=
    mk_funQ (O := tabL [([1, 0, 0, 0], escrow_may_s0_se)]) (Lp := [(0, .sl), (1, .int .i64), (2, .int .i64)]) (Rt := [.int .i64]) (S := (fun x w => escrow_may x.1 x.2.1 x.2.2.1)) (escrow_may_Rok) escrow_may_facts (OrcQ.cons (by kernel_rfl) (escrow_may_s0_se_ok [(0, 32)] (by kernel_rfl)) (OrcQ.nil _ _ _)) (fun _ _ => by kernel_rfl) x w y h
noncomputable def escrow_may_re : RE := funR [(0, .sl), (1, .int .i64), (2, .int .i64)] [.int .i64] (fun x w => escrow_may x.1 x.2.1 x.2.2.1)
theorem escrow_may_ok : (escrow_may_re).Ok prog 51 := funR_ok (Rt := [.int .i64]) (S := (fun x w => escrow_may x.1 x.2.1 x.2.2.1)) escrow_may_facts fun x w y h => escrow_may_calls x w y h

noncomputable def escrow_Random_R : List (Nat × RE) := []
theorem escrow_Random_Rok : REnv.Ok prog (tab (escrow_Random_R)) := (REnv.nil _)
noncomputable def escrow_Random_s0 (need0 : Int) (size1 : Int) : Option (Out (Bool × Unit) (Int × Unit)) :=
  if (decide (need0 < 1)) = true then (some (.norm (true, ()))) else (if (decide (need0 > 16)) = true then (some (.norm (true, ()))) else (if (decide (size1 < 1)) = true then (some (.norm (true, ()))) else (some (.norm ((decide (size1 > 64)), ())))))
/-- coffer/escrow.Random -/
noncomputable def escrow_Random (need0 : Int) (size1 : Int) : Option (Int × Unit) :=
  (escrow_Random_s0 need0 size1).bind fun y_1 =>
  (match y_1 with
  | .norm z_2n => (if z_2n.1 = true then (some (0, ())) else (some ((IntKind.i64.wrap ((IntKind.i64.wrap (need0 - 1)) * (IntKind.i64.wrap (size1 + 4)))), ())))
  | .ret z_2r => (some (z_2r.1, ())))
theorem escrow_Random_s0_ok : StmtQOk prog [(0, .int .i64), (1, .int .i64)] [(18, .bool)] [(4, .int .i64)] [(5, 19)] (fun x w => escrow_Random_s0 x.1 x.2.1) (cd (bodyOf f17) [1, 0, 0]) :=
    mk_stmtQ (O := tabL []) (root := (bodyOf f17)) (π := [1, 0, 0]) (Li := [(0, .int .i64), (1, .int .i64)]) (Lo := [(18, .bool)]) (Lr := [(4, .int .i64)]) (S := (fun x w => escrow_Random_s0 x.1 x.2.1)) (escrow_Random_Rok) (OrcQ.nil _ _ _) (by kernel_rfl) (fun _ _ => by kernel_rfl)
noncomputable def escrow_Random_s0_se : SQ := stmtQ [(0, .int .i64), (1, .int .i64)] [(18, .bool)] [(4, .int .i64)] [(5, 19)] (fun x w => escrow_Random_s0 x.1 x.2.1)
theorem escrow_Random_s0_se_ok (R : Rg) (h : subRB [(5, 19)] R = true) : (escrow_Random_s0_se).Ok prog R (cd (bodyOf f17) [1, 0, 0]) := stmtQ_ok (Li := [(0, .int .i64), (1, .int .i64)]) (Lo := [(18, .bool)]) (Lr := [(4, .int .i64)]) (S := (fun x w => escrow_Random_s0 x.1 x.2.1)) (escrow_Random_s0_ok) (subR_of h)
theorem escrow_Random_facts : FunFacts prog 17 f17 (bodyOf f17) [(0, .int .i64), (1, .int .i64)] [(0, 24)] := ⟨func17, by kernel_rfl, by kernel_rfl, by kernel_rfl, by kernel_rfl, by kernel_rfl⟩
theorem escrow_Random_calls (x : TT [(0, .int .i64), (1, .int .i64)]) (w : World) (y : TR [.int .i64]) (h : escrow_Random x.1 x.2.1 = some y) : Calls prog 17 (encA [(0, .int .i64), (1, .int .i64)] x).toArray w (fun e w3 => e = .returned (resV (encR [.int .i64] y)) ∧ w3 = w) :=
    mk_funQ (O := tabL [([1, 0, 0], escrow_Random_s0_se)]) (Lp := [(0, .int .i64), (1, .int .i64)]) (Rt := [.int .i64]) (S := (fun x w => escrow_Random x.1 x.2.1)) (escrow_Random_Rok) escrow_Random_facts (OrcQ.cons (by kernel_rfl) (escrow_Random_s0_se_ok [(0, 24)] (by kernel_rfl)) (OrcQ.nil _ _ _)) (fun _ _ => by kernel_rfl) x w y h
noncomputable def escrow_Random_re : RE := funR [(0, .int .i64), (1, .int .i64)] [.int .i64] (fun x w => escrow_Random x.1 x.2.1)
theorem escrow_Random_ok : (escrow_Random_re).Ok prog 17 := funR_ok (Rt := [.int .i64]) (S := (fun x w => escrow_Random x.1 x.2.1)) escrow_Random_facts fun x w y h => escrow_Random_calls x w y h

noncomputable def digest_kindOf_E : List (Nat × CE) := []
theorem digest_kindOf_Eok : Env.Ok prog (tab (digest_kindOf_E)) := (Env.nil _)
noncomputable def digest_kindOf_R : List (Nat × RE) := []
theorem digest_kindOf_Rok : REnv.Ok prog (tab (digest_kindOf_R)) := (REnv.nil _)
noncomputable def digest_kindOf_s0 (a4 : Int) (a5 : Bool) (w : World) : Option ((Bool × Unit) × World) :=
  if a5 = true then (some ((true, ()), w)) else (some (((a4 == 256), ()), w))
noncomputable def digest_kindOf_s1 (a4 : Int) (a11 : Bool) (w : World) : Option ((Bool × Unit) × World) :=
  if a11 = true then (some ((true, ()), w)) else (some (((a4 == 512), ()), w))
/-- coffer/digest.kindOf -/
noncomputable def digest_kindOf (hash0 : Int) (w : World) : Option (((Array Value) × Bool × Unit) × World) :=
  bnd (newB z138 138 w) fun p_1 w_2 =>
  bnd (digest_kindOf_s0 hash0 (hash0 == 224) w_2) fun y_3 w_4 =>
  if y_3.1 = true then ((prog.built 138 [(0, (.int .i64 (IntKind.i64.wrap (Int.tdiv hash0 8)))), (1, (.int .i64 64)), (2, (.int .i64 4)), (3, (.func (.func 113) #[] #[]))]).bind fun cs_5 =>
  if (cs_5).size = 4 then ((stA p_1 cs_5 w_4).bind fun w_6 =>
  (ldA 4 p_1 w_6).bind fun res_7 =>
  some ((res_7, true, ()), w_6)) else none) else (bnd (digest_kindOf_s1 hash0 (hash0 == 384) w_4) fun y_8 w_9 =>
  if y_8.1 = true then ((prog.built 138 [(0, (.int .i64 (IntKind.i64.wrap (Int.tdiv hash0 8)))), (1, (.int .i64 128)), (2, (.int .i64 8)), (3, (.func (.func 114) #[] #[]))]).bind fun cs_10 =>
  if (cs_10).size = 4 then ((stA p_1 cs_10 w_9).bind fun w_11 =>
  (ldA 4 p_1 w_11).bind fun res_12 =>
  some ((res_12, true, ()), w_11)) else none) else ((prog.built 138 []).bind fun cs_13 =>
  if (cs_13).size = 4 then ((stA p_1 cs_13 w_9).bind fun w_14 =>
  (ldA 4 p_1 w_14).bind fun res_15 =>
  some ((res_15, false, ()), w_14)) else none))
theorem digest_kindOf_s0_ok : StmtNOk prog [(4, .int .i64), (5, .bool)] [(5, .bool)] [(5, 6), (7, 8)] (fun x w => digest_kindOf_s0 x.1 x.2.1 w) (cd (bodyOf f88) [1, 0, 1, 0, 0, 1]) :=
    mk_stmtN (O := tabL []) (root := (bodyOf f88)) (π := [1, 0, 1, 0, 0, 1]) (Li := [(4, .int .i64), (5, .bool)]) (Lo := [(5, .bool)]) (S := (fun x w => digest_kindOf_s0 x.1 x.2.1 w)) (digest_kindOf_Eok) (digest_kindOf_Rok) rfl (Orc.nil _ _ _) (by kernel_rfl) (fun _ _ => by kernel_rfl)
noncomputable def digest_kindOf_s0_se : SE := stmtN [(4, .int .i64), (5, .bool)] [(5, .bool)] [(5, 6), (7, 8)] (fun x w => digest_kindOf_s0 x.1 x.2.1 w)
theorem digest_kindOf_s0_se_ok (R : Rg) (h : subRB [(5, 6), (7, 8)] R = true) : (digest_kindOf_s0_se).Ok prog R (cd (bodyOf f88) [1, 0, 1, 0, 0, 1]) := stmtN_ok (Li := [(4, .int .i64), (5, .bool)]) (Lo := [(5, .bool)]) (S := (fun x w => digest_kindOf_s0 x.1 x.2.1 w)) (digest_kindOf_s0_ok) (subR_of h)
theorem digest_kindOf_s1_ok : StmtNOk prog [(4, .int .i64), (11, .bool)] [(11, .bool)] [(11, 12), (13, 14)] (fun x w => digest_kindOf_s1 x.1 x.2.1 w) (cd (bodyOf f88) [1, 0, 1, 0, 1, 1, 0, 1]) :=
    mk_stmtN (O := tabL []) (root := (bodyOf f88)) (π := [1, 0, 1, 0, 1, 1, 0, 1]) (Li := [(4, .int .i64), (11, .bool)]) (Lo := [(11, .bool)]) (S := (fun x w => digest_kindOf_s1 x.1 x.2.1 w)) (digest_kindOf_Eok) (digest_kindOf_Rok) rfl (Orc.nil _ _ _) (by kernel_rfl) (fun _ _ => by kernel_rfl)
noncomputable def digest_kindOf_s1_se : SE := stmtN [(4, .int .i64), (11, .bool)] [(11, .bool)] [(11, 12), (13, 14)] (fun x w => digest_kindOf_s1 x.1 x.2.1 w)
theorem digest_kindOf_s1_se_ok (R : Rg) (h : subRB [(11, 12), (13, 14)] R = true) : (digest_kindOf_s1_se).Ok prog R (cd (bodyOf f88) [1, 0, 1, 0, 1, 1, 0, 1]) := stmtN_ok (Li := [(4, .int .i64), (11, .bool)]) (Lo := [(11, .bool)]) (S := (fun x w => digest_kindOf_s1 x.1 x.2.1 w)) (digest_kindOf_s1_ok) (subR_of h)
theorem digest_kindOf_facts : FunFacts prog 88 f88 (bodyOf f88) [(0, .int .i64)] [(0, 18)] := ⟨func88, by kernel_rfl, by kernel_rfl, by kernel_rfl, by kernel_rfl, by kernel_rfl⟩
theorem digest_kindOf_calls (x : TT [(0, .int .i64)]) (w : World) (y : TR [.agg, .bool]) (w2 : World) (h : digest_kindOf x.1 w = some (y, w2)) : Calls prog 88 (encA [(0, .int .i64)] x).toArray w (fun e w3 => e = .returned (resV (encR [.agg, .bool] y)) ∧ w3 = w2) :=
    mk_fun (O := tabL [([1, 0, 1, 0, 0, 1], digest_kindOf_s0_se), ([1, 0, 1, 0, 1, 1, 0, 1], digest_kindOf_s1_se)]) (Lp := [(0, .int .i64)]) (Rt := [.agg, .bool]) (S := (fun x w => digest_kindOf x.1 w)) (digest_kindOf_Eok) (digest_kindOf_Rok) rfl digest_kindOf_facts (Orc.cons (by kernel_rfl) (digest_kindOf_s0_se_ok [(0, 18)] (by kernel_rfl)) (Orc.cons (by kernel_rfl) (digest_kindOf_s1_se_ok [(0, 18)] (by kernel_rfl)) (Orc.nil _ _ _))) (fun _ _ => by kernel_rfl) x w y w2 h
noncomputable def digest_kindOf_ce : CE := funE [(0, .int .i64)] [.agg, .bool] (fun x w => digest_kindOf x.1 w)
theorem digest_kindOf_ok : (digest_kindOf_ce).Ok prog 88 := funE_ok (Rt := [.agg, .bool]) (S := (fun x w => digest_kindOf x.1 w)) digest_kindOf_facts fun x w y w2 h => digest_kindOf_calls x w y w2 h

noncomputable def digest_first_E (K : Nat) : List (Nat × CE) := []
theorem digest_first_Eok (K : Nat) : Env.Ok prog (tab (digest_first_E K)) := (Env.nil _)
noncomputable def digest_first_R (K : Nat) : List (Nat × RE) := []
theorem digest_first_Rok (K : Nat) : REnv.Ok prog (tab (digest_first_R K)) := (REnv.nil _)
noncomputable def digest_first_l0_b (K : Nat) (rec : Int → Addr → Int → World → Option ((Unit) × World)) (hash0 : Int) (out2 : Addr) (a4 : Int) (w : World) : Option ((Unit) × World) :=
  if (decide (a4 < 8)) = true then (if (hash0 == 224) = true then (if (0 : Int) ≤ (IntKind.i64.wrap (8 + a4)) ∧ (IntKind.i64.wrap (8 + a4)) < ((16 : Nat) : Int) then ((ldI .u64 ((⟨4, 0, none⟩ : Addr).add ((Int.toNat (IntKind.i64.wrap (8 + a4))) * 1)) w).bind fun v_3 =>
  if (0 : Int) ≤ a4 ∧ a4 < ((8 : Nat) : Int) then ((stC (out2.add ((Int.toNat a4) * 1)) (.int .u64 (bits .and .u64 v_3 4294967295)) w).bind fun w_4 =>
  rec hash0 out2 (IntKind.i64.wrap (a4 + 1)) w_4) else none) else none) else (if (hash0 == 256) = true then (if (0 : Int) ≤ a4 ∧ a4 < ((16 : Nat) : Int) then ((ldI .u64 ((⟨4, 0, none⟩ : Addr).add ((Int.toNat a4) * 1)) w).bind fun v_5 =>
  if (0 : Int) ≤ a4 ∧ a4 < ((8 : Nat) : Int) then ((stC (out2.add ((Int.toNat a4) * 1)) (.int .u64 (Int.fdiv v_5 (2 ^ 32))) w).bind fun w_6 =>
  rec hash0 out2 (IntKind.i64.wrap (a4 + 1)) w_6) else none) else none) else (if (hash0 == 384) = true then (if (0 : Int) ≤ (IntKind.i64.wrap (8 + a4)) ∧ (IntKind.i64.wrap (8 + a4)) < ((16 : Nat) : Int) then ((ldI .u64 ((⟨4, 0, none⟩ : Addr).add ((Int.toNat (IntKind.i64.wrap (8 + a4))) * 1)) w).bind fun v_7 =>
  if (0 : Int) ≤ a4 ∧ a4 < ((8 : Nat) : Int) then ((stC (out2.add ((Int.toNat a4) * 1)) (.int .u64 v_7) w).bind fun w_8 =>
  rec hash0 out2 (IntKind.i64.wrap (a4 + 1)) w_8) else none) else none) else (if (hash0 == 512) = true then (if (0 : Int) ≤ a4 ∧ a4 < ((16 : Nat) : Int) then ((ldI .u64 ((⟨4, 0, none⟩ : Addr).add ((Int.toNat a4) * 1)) w).bind fun v_9 =>
  if (0 : Int) ≤ a4 ∧ a4 < ((8 : Nat) : Int) then ((stC (out2.add ((Int.toNat a4) * 1)) (.int .u64 v_9) w).bind fun w_10 =>
  rec hash0 out2 (IntKind.i64.wrap (a4 + 1)) w_10) else none) else none) else (rec hash0 out2 (IntKind.i64.wrap (a4 + 1)) w))))) else (some ((), w))
noncomputable def digest_first_l0 (K : Nat) (n : Nat) : Int → Addr → Int → World → Option ((Unit) × World) := iter (fun _ _ _ _ => none) (digest_first_l0_b K) n
/-- coffer/digest.first -/
noncomputable def digest_first (K : Nat) (hash0 : Int) (w : World) : Option (((Array Value) × Unit) × World) :=
  bnd (newB z150 150 w) fun out_1 w_2 =>
  bnd (digest_first_l0 K K hash0 out_1 0 w_2) fun y_11 w_12 =>
  (ldA 8 out_1 w_12).bind fun v_13 =>
  if (v_13).size = 8 then ((stA out_1 v_13 w_12).bind fun w_14 =>
  (ldA 8 out_1 w_14).bind fun res_15 =>
  some ((res_15, ()), w_14)) else none
theorem digest_first_l0_ok (K : Nat) (n : Nat) : StmtNOk prog [(0, .int .i64), (2, .addr), (4, .int .i64)] [] [(3, 41)] ((fun n x w => digest_first_l0 K n x.1 x.2.1 x.2.2.1 w) n) (.block 0 (.loop (cd (bodyOf f136) [1, 0, 1, 0, 0]))) :=
    mk_loopN (O := tabL []) (root := (bodyOf f136)) (π := [1, 0, 1, 0, 0]) (id := 0) (Li := [(0, .int .i64), (2, .addr), (4, .int .i64)]) (Lo := []) (S := (fun n x w => digest_first_l0 K n x.1 x.2.1 x.2.2.1 w)) (body := cd (bodyOf f136) [1, 0, 1, 0, 0]) (digest_first_Eok K) (digest_first_Rok K) rfl (Orc.nil _ _ _) (by kernel_rfl) (fun _ _ => by kernel_rfl) (fun _ _ _ => by kernel_rfl) n
noncomputable def digest_first_l0_se (K : Nat) : SE := stmtN [(0, .int .i64), (2, .addr), (4, .int .i64)] [] [(3, 41)] (fun x w => digest_first_l0 K K x.1 x.2.1 x.2.2.1 w)
theorem digest_first_l0_se_ok (K : Nat) (R : Rg) (h : subRB [(3, 41)] R = true) : (digest_first_l0_se K).Ok prog R (.block 0 (.loop (cd (bodyOf f136) [1, 0, 1, 0, 0]))) := stmtN_ok (Li := [(0, .int .i64), (2, .addr), (4, .int .i64)]) (Lo := []) (S := (fun x w => digest_first_l0 K K x.1 x.2.1 x.2.2.1 w)) (digest_first_l0_ok K K) (subR_of h)
theorem digest_first_facts : FunFacts prog 136 f136 (bodyOf f136) [(0, .int .i64)] [(0, 42)] := ⟨func136, by kernel_rfl, by kernel_rfl, by kernel_rfl, by kernel_rfl, by kernel_rfl⟩
theorem digest_first_calls (K : Nat) (x : TT [(0, .int .i64)]) (w : World) (y : TR [.agg]) (w2 : World) (h : digest_first K x.1 w = some (y, w2)) : Calls prog 136 (encA [(0, .int .i64)] x).toArray w (fun e w3 => e = .returned (resV (encR [.agg] y)) ∧ w3 = w2) :=
    mk_fun (O := tabL [([1, 0, 1], digest_first_l0_se K)]) (Lp := [(0, .int .i64)]) (Rt := [.agg]) (S := (fun x w => digest_first K x.1 w)) (digest_first_Eok K) (digest_first_Rok K) rfl digest_first_facts (Orc.cons (by kernel_rfl) (digest_first_l0_se_ok K [(0, 42)] (by kernel_rfl)) (Orc.nil _ _ _)) (fun _ _ => by kernel_rfl) x w y w2 h
noncomputable def digest_first_ce (K : Nat) : CE := funE [(0, .int .i64)] [.agg] (fun x w => digest_first K x.1 w)
theorem digest_first_ok (K : Nat) : (digest_first_ce K).Ok prog 136 := funE_ok (Rt := [.agg]) (S := (fun x w => digest_first K x.1 w)) digest_first_facts fun x w y w2 h => digest_first_calls K x w y w2 h

noncomputable def digest_begin_E (K : Nat) : List (Nat × CE) := [(88, digest_kindOf_ce), (136, digest_first_ce K)]
theorem digest_begin_Eok (K : Nat) : Env.Ok prog (tab (digest_begin_E K)) := (Env.cons (digest_kindOf_ok) (Env.cons (digest_first_ok K) (Env.nil _)))
noncomputable def digest_begin_R (K : Nat) : List (Nat × RE) := []
theorem digest_begin_Rok (K : Nat) : REnv.Ok prog (tab (digest_begin_R K)) := (REnv.nil _)
/-- coffer/digest.begin -/
noncomputable def digest_begin (K : Nat) (hash0 : Int) (w : World) : Option (((Array Value) × Bool × Unit) × World) :=
  bnd (newB z180 180 w) fun p_1 w_2 =>
  bnd (digest_kindOf hash0 w_2) fun r_3 w_4 =>
  bnd (newB z138 138 w_4) fun k_5 w_6 =>
  if (r_3.1).size = 4 then ((stA k_5 r_3.1 w_6).bind fun w_7 =>
  (ldA 4 k_5 w_7.drew).bind fun v_8 =>
  bnd (digest_first K hash0 w_7.drew) fun r_9 w_10 =>
  (ldA 4 k_5 w_10).bind fun v_11 =>
  sameK (.agg v_8) (.agg v_11) ((prog.built 180 [(0, (.agg v_8)), (1, (.int .i64 hash0)), (3, (.agg r_9.1))]).bind fun cs_12 =>
  if (cs_12).size = 142 then ((stA p_1 cs_12 w_10).bind fun w_13 =>
  (ldA 142 p_1 w_13).bind fun res_14 =>
  some ((res_14, r_3.2.1, ()), w_13)) else none)) else none
theorem digest_begin_facts : FunFacts prog 126 f126 (bodyOf f126) [(0, .int .i64)] [(0, 17)] := ⟨func126, by kernel_rfl, by kernel_rfl, by kernel_rfl, by kernel_rfl, by kernel_rfl⟩
theorem digest_begin_calls (K : Nat) (x : TT [(0, .int .i64)]) (w : World) (y : TR [.agg, .bool]) (w2 : World) (h : digest_begin K x.1 w = some (y, w2)) : Calls prog 126 (encA [(0, .int .i64)] x).toArray w (fun e w3 => e = .returned (resV (encR [.agg, .bool] y)) ∧ w3 = w2) :=
    mk_fun (O := tabL []) (Lp := [(0, .int .i64)]) (Rt := [.agg, .bool]) (S := (fun x w => digest_begin K x.1 w)) (digest_begin_Eok K) (digest_begin_Rok K) rfl digest_begin_facts (Orc.nil _ _ _) (fun _ _ => by kernel_rfl) x w y w2 h
noncomputable def digest_begin_ce (K : Nat) : CE := funE [(0, .int .i64)] [.agg, .bool] (fun x w => digest_begin K x.1 w)
theorem digest_begin_ok (K : Nat) : (digest_begin_ce K).Ok prog 126 := funE_ok (Rt := [.agg, .bool]) (S := (fun x w => digest_begin K x.1 w)) digest_begin_facts fun x w y w2 h => digest_begin_calls K x w y w2 h

noncomputable def digest_New_E (K : Nat) : List (Nat × CE) := [(126, digest_begin_ce K)]
theorem digest_New_Eok (K : Nat) : Env.Ok prog (tab (digest_New_E K)) := (Env.cons (digest_begin_ok K) (Env.nil _))
noncomputable def digest_New_R (K : Nat) : List (Nat × RE) := []
theorem digest_New_Rok (K : Nat) : REnv.Ok prog (tab (digest_New_R K)) := (REnv.nil _)
/-- coffer/digest.New -/
noncomputable def digest_New (K : Nat) (hash0 : Int) (w : World) : Option (((Option Addr) × Int × Unit) × World) :=
  bnd (digest_begin K hash0 w) fun r_1 w_2 =>
  bnd (newB z180 180 w_2) fun s_3 w_4 =>
  if (r_1.1).size = 142 then ((stA s_3 r_1.1 w_4).bind fun w_5 =>
  if (!r_1.2.1) = true then (some ((none, 10, ()), w_5)) else ((ldA 142 s_3 w_5).bind fun v_6 =>
  (prog.built 184 [(0, (.agg v_6))]).bind fun cs_7 =>
  bnd (newB cs_7 184 w_5) fun p_8 w_9 =>
  some (((some p_8), 0, ()), w_9))) else none
theorem digest_New_facts : FunFacts prog 105 f105 (bodyOf f105) [(0, .int .i64)] [(0, 16)] := ⟨func105, by kernel_rfl, by kernel_rfl, by kernel_rfl, by kernel_rfl, by kernel_rfl⟩
theorem digest_New_calls (K : Nat) (x : TT [(0, .int .i64)]) (w : World) (y : TR [.ptr, .int .i64]) (w2 : World) (h : digest_New K x.1 w = some (y, w2)) : Calls prog 105 (encA [(0, .int .i64)] x).toArray w (fun e w3 => e = .returned (resV (encR [.ptr, .int .i64] y)) ∧ w3 = w2) :=
    mk_fun (O := tabL []) (Lp := [(0, .int .i64)]) (Rt := [.ptr, .int .i64]) (S := (fun x w => digest_New K x.1 w)) (digest_New_Eok K) (digest_New_Rok K) rfl digest_New_facts (Orc.nil _ _ _) (fun _ _ => by kernel_rfl) x w y w2 h
noncomputable def digest_New_ce (K : Nat) : CE := funE [(0, .int .i64)] [.ptr, .int .i64] (fun x w => digest_New K x.1 w)
theorem digest_New_ok (K : Nat) : (digest_New_ce K).Ok prog 105 := funE_ok (Rt := [.ptr, .int .i64]) (S := (fun x w => digest_New K x.1 w)) digest_New_facts fun x w y w2 h => digest_New_calls K x w y w2 h

noncomputable def digest_total_R (K : Nat) : List (Nat × RE) := []
theorem digest_total_Rok (K : Nat) : REnv.Ok prog (tab (digest_total_R K)) := (REnv.nil _)
noncomputable def digest_total_l0_b (K : Nat) (w : World) (rec : Int → Sl → Int → Int → Option (Out (Int × Unit) (Int × Unit))) (n3 : Int) (a6 : Sl) (a7 : Int) (a8 : Int) : Option (Out (Int × Unit) (Int × Unit)) :=
  if (decide (a8 < a7)) = true then ((a6.a).bind fun p_1 =>
  if (0 : Int) ≤ a8 ∧ a8 < ((a6.len : Nat) : Int) then ((ldS (p_1.add ((Int.toNat a8) * 1)) w).bind fun v_2 =>
  if (decide ((IntKind.i64.wrap (n3 + ((v_2.len : Nat) : Int))) > 33554432)) = true then (some (.norm ((IntKind.i64.wrap (n3 + ((v_2.len : Nat) : Int))), ()))) else (rec (IntKind.i64.wrap (n3 + ((v_2.len : Nat) : Int))) a6 a7 (IntKind.i64.wrap (a8 + 1)))) else none) else (some (.norm (n3, ())))
noncomputable def digest_total_l0 (K : Nat) (n : Nat) (n3 : Int) (a6 : Sl) (a7 : Int) (a8 : Int) (w : World) : Option (Out (Int × Unit) (Int × Unit)) := iter (α := Int → Sl → Int → Int → Option (Out (Int × Unit) (Int × Unit))) (fun _ _ _ _ => none) (digest_total_l0_b K w) n n3 a6 a7 a8
/-- coffer/digest.total -/
noncomputable def digest_total (K : Nat) (parts0 : Sl) (w : World) : Option (Int × Unit) :=
  (digest_total_l0 K K 0 parts0 ((parts0.len : Nat) : Int) 0 w).bind fun y_3 =>
  (match y_3 with
  | .norm z_4n => (some (z_4n.1, ()))
  | .ret z_4r => (some (z_4r.1, ())))
theorem digest_total_l0_ok (K : Nat) (n : Nat) : StmtQOk prog [(3, .int .i64), (6, .sl), (7, .int .i64), (8, .int .i64)] [(3, .int .i64)] [(2, .int .i64)] [(3, 4), (5, 6), (8, 19)] ((fun n x w => digest_total_l0 K n x.1 x.2.1 x.2.2.1 x.2.2.2.1 w) n) (.block 0 (.loop (cd (bodyOf f127) [1, 1, 0, 1, 0, 0]))) :=
    mk_loopQ (O := tabL []) (root := (bodyOf f127)) (π := [1, 1, 0, 1, 0, 0]) (id := 0) (Li := [(3, .int .i64), (6, .sl), (7, .int .i64), (8, .int .i64)]) (Lo := [(3, .int .i64)]) (Lr := [(2, .int .i64)]) (S := (fun n x w => digest_total_l0 K n x.1 x.2.1 x.2.2.1 x.2.2.2.1 w)) (body := cd (bodyOf f127) [1, 1, 0, 1, 0, 0]) (digest_total_Rok K) (OrcQ.nil _ _ _) (by kernel_rfl) (fun _ _ => by kernel_rfl) (fun _ _ _ => by kernel_rfl) n
noncomputable def digest_total_l0_se (K : Nat) : SQ := stmtQ [(3, .int .i64), (6, .sl), (7, .int .i64), (8, .int .i64)] [(3, .int .i64)] [(2, .int .i64)] [(3, 4), (5, 6), (8, 19)] (fun x w => digest_total_l0 K K x.1 x.2.1 x.2.2.1 x.2.2.2.1 w)
theorem digest_total_l0_se_ok (K : Nat) (R : Rg) (h : subRB [(3, 4), (5, 6), (8, 19)] R = true) : (digest_total_l0_se K).Ok prog R (.block 0 (.loop (cd (bodyOf f127) [1, 1, 0, 1, 0, 0]))) := stmtQ_ok (Li := [(3, .int .i64), (6, .sl), (7, .int .i64), (8, .int .i64)]) (Lo := [(3, .int .i64)]) (Lr := [(2, .int .i64)]) (S := (fun x w => digest_total_l0 K K x.1 x.2.1 x.2.2.1 x.2.2.2.1 w)) (digest_total_l0_ok K K) (subR_of h)
theorem digest_total_facts : FunFacts prog 127 f127 (bodyOf f127) [(0, .sl)] [(0, 20)] := ⟨func127, by kernel_rfl, by kernel_rfl, by kernel_rfl, by kernel_rfl, by kernel_rfl⟩
theorem digest_total_calls (K : Nat) (x : TT [(0, .sl)]) (w : World) (y : TR [.int .i64]) (h : digest_total K x.1 w = some y) : Calls prog 127 (encA [(0, .sl)] x).toArray w (fun e w3 => e = .returned (resV (encR [.int .i64] y)) ∧ w3 = w) :=
    mk_funQ (O := tabL [([1, 1, 0, 1], digest_total_l0_se K)]) (Lp := [(0, .sl)]) (Rt := [.int .i64]) (S := (fun x w => digest_total K x.1 w)) (digest_total_Rok K) digest_total_facts (OrcQ.cons (by kernel_rfl) (digest_total_l0_se_ok K [(0, 20)] (by kernel_rfl)) (OrcQ.nil _ _ _)) (fun _ _ => by kernel_rfl) x w y h
noncomputable def digest_total_re (K : Nat) : RE := funR [(0, .sl)] [.int .i64] (fun x w => digest_total K x.1 w)
theorem digest_total_ok (K : Nat) : (digest_total_re K).Ok prog 127 := funR_ok (Rt := [.int .i64]) (S := (fun x w => digest_total K x.1 w)) digest_total_facts fun x w y h => digest_total_calls K x w y h

noncomputable def bits_RotateLeft64_R : List (Nat × RE) := []
theorem bits_RotateLeft64_Rok : REnv.Ok prog (tab (bits_RotateLeft64_R)) := (REnv.nil _)
/-- math/bits.RotateLeft64 -/
noncomputable def bits_RotateLeft64 (x0 : Int) (k1 : Int) : Option (Int × Unit) :=
  if (0 : Int) ≤ (bits .and .u64 (IntKind.u64.wrap k1) 63) then (if (0 : Int) ≤ (IntKind.u64.wrap (64 - (bits .and .u64 (IntKind.u64.wrap k1) 63))) then (some ((bits .or .u64 (IntKind.u64.wrap (x0 * 2 ^ (min (Int.toNat (bits .and .u64 (IntKind.u64.wrap k1) 63)) IntKind.u64.bits))) (Int.fdiv x0 (2 ^ (min (Int.toNat (IntKind.u64.wrap (64 - (bits .and .u64 (IntKind.u64.wrap k1) 63)))) IntKind.u64.bits)))), ())) else none) else none
theorem bits_RotateLeft64_facts : FunFacts prog 133 f133 (bodyOf f133) [(0, .int .u64), (1, .int .i64)] [(0, 17)] := ⟨func133, by kernel_rfl, by kernel_rfl, by kernel_rfl, by kernel_rfl, by kernel_rfl⟩
theorem bits_RotateLeft64_calls (x : TT [(0, .int .u64), (1, .int .i64)]) (w : World) (y : TR [.int .u64]) (h : bits_RotateLeft64 x.1 x.2.1 = some y) : Calls prog 133 (encA [(0, .int .u64), (1, .int .i64)] x).toArray w (fun e w3 => e = .returned (resV (encR [.int .u64] y)) ∧ w3 = w) :=
    mk_funQ (O := tabL []) (Lp := [(0, .int .u64), (1, .int .i64)]) (Rt := [.int .u64]) (S := (fun x w => bits_RotateLeft64 x.1 x.2.1)) (bits_RotateLeft64_Rok) bits_RotateLeft64_facts (OrcQ.nil _ _ _) (fun _ _ => by kernel_rfl) x w y h
noncomputable def bits_RotateLeft64_re : RE := funR [(0, .int .u64), (1, .int .i64)] [.int .u64] (fun x w => bits_RotateLeft64 x.1 x.2.1)
theorem bits_RotateLeft64_ok : (bits_RotateLeft64_re).Ok prog 133 := funR_ok (Rt := [.int .u64]) (S := (fun x w => bits_RotateLeft64 x.1 x.2.1)) bits_RotateLeft64_facts fun x w y h => bits_RotateLeft64_calls x w y h

end Go.Sh
