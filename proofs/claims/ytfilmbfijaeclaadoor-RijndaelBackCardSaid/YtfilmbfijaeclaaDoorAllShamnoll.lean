/- Texts of this claim, put together: Sh4, Sh5 -/
import Derived.Test.YtfilmbfijaeclaaDoorAllShhmjcpb
/- What functions of the program do, as Lean functions; that the machine does just that. Printed by shal.py, a program of this claim's writer. -/
set_option maxRecDepth 100000
set_option linter.unusedVariables false
namespace Go.Sh
open Go.Fw Go.Proofs.Tryd

noncomputable def ref02_Key_Encrypt_E (K : Nat) : List (Nat × CE) := [(47, ref02_Key_added_ce K), (48, ref02_Key_columns_ce K)]
theorem ref02_Key_Encrypt_Eok (K : Nat) : Env.Ok prog (tab (ref02_Key_Encrypt_E K)) := (Env.cons (ref02_Key_added_ok K) (Env.cons (ref02_Key_columns_ok K) (Env.nil _)))
noncomputable def ref02_Key_Encrypt_R (K : Nat) : List (Nat × RE) := [(20, ref02_Key_Rounds_re)]
theorem ref02_Key_Encrypt_Rok (K : Nat) : REnv.Ok prog (tab (ref02_Key_Encrypt_R K)) := (REnv.cons (ref02_Key_Rounds_ok) (REnv.nil _))
noncomputable def ref02_Key_Encrypt_l2_b (K : Nat) (rec : Option Addr → Addr → Addr → Int → Int → Addr → Int → Int → World → Option ((Unit) × World)) (k0 : Option Addr) (b3 : Addr) (a4 : Addr) (n5 : Int) (r6 : Int) (t7 : Addr) (c8 : Int) (i9 : Int) (w : World) : Option ((Unit) × World) :=
  if (decide (i9 < 4)) = true then (if (0 : Int) ≤ (IntKind.i64.wrap ((IntKind.i64.wrap (4 * (Int.tmod (IntKind.i64.wrap (c8 + i9)) 4))) + i9)) ∧ (IntKind.i64.wrap ((IntKind.i64.wrap (4 * (Int.tmod (IntKind.i64.wrap (c8 + i9)) 4))) + i9)) < ((16 : Nat) : Int) then ((k0).bind fun p_12 =>
  (ldI .u8 (b3.add ((Int.toNat (IntKind.i64.wrap ((IntKind.i64.wrap (4 * (Int.tmod (IntKind.i64.wrap (c8 + i9)) 4))) + i9))) * 1)) w.drew).bind fun v_13 =>
  if (0 : Int) ≤ v_13 ∧ v_13 < ((256 : Nat) : Int) then ((ldI .u8 ((p_12.add 2).add ((Int.toNat v_13) * 1)) w.drew).bind fun v_14 =>
  if (0 : Int) ≤ (IntKind.i64.wrap ((IntKind.i64.wrap (4 * c8)) + i9)) ∧ (IntKind.i64.wrap ((IntKind.i64.wrap (4 * c8)) + i9)) < ((16 : Nat) : Int) then ((stC (t7.add ((Int.toNat (IntKind.i64.wrap ((IntKind.i64.wrap (4 * c8)) + i9))) * 1)) (.int .u8 v_14) w.drew).bind fun w_15 =>
  rec k0 b3 a4 n5 r6 t7 c8 (IntKind.i64.wrap (i9 + 1)) w_15) else none) else none) else none) else (some ((), w))
noncomputable def ref02_Key_Encrypt_l2 (K : Nat) (n : Nat) : Option Addr → Addr → Addr → Int → Int → Addr → Int → Int → World → Option ((Unit) × World) := iter (fun _ _ _ _ _ _ _ _ _ => none) (ref02_Key_Encrypt_l2_b K) n
noncomputable def ref02_Key_Encrypt_l1_b (K : Nat) (rec : Option Addr → Addr → Addr → Int → Int → Addr → Int → World → Option ((Unit) × World)) (k0 : Option Addr) (b3 : Addr) (a4 : Addr) (n5 : Int) (r6 : Int) (t7 : Addr) (c8 : Int) (w : World) : Option ((Unit) × World) :=
  if (decide (c8 < 4)) = true then (bnd (ref02_Key_Encrypt_l2 K K k0 b3 a4 n5 r6 t7 c8 0 w) fun y_16 w_17 =>
  rec k0 b3 a4 n5 r6 t7 (IntKind.i64.wrap (c8 + 1)) w_17) else (some ((), w))
noncomputable def ref02_Key_Encrypt_l1 (K : Nat) (n : Nat) : Option Addr → Addr → Addr → Int → Int → Addr → Int → World → Option ((Unit) × World) := iter (fun _ _ _ _ _ _ _ _ => none) (ref02_Key_Encrypt_l1_b K) n
noncomputable def ref02_Key_Encrypt_s3 (K : Nat) (k0 : Option Addr) (t7 : Addr) (a49 : Bool) (w : World) : Option ((Unit) × World) :=
  if a49 = true then ((ldA 16 t7 w).bind fun v_20 =>
  (prog.built 105 [(0, (.int .u8 2)), (1, (.int .u8 3)), (2, (.int .u8 1)), (3, (.int .u8 1))]).bind fun cs_21 =>
  bnd (ref02_Key_columns K k0 v_20 cs_21 w) fun r_22 w_23 =>
  if (r_22.1).size = 16 then ((stA t7 r_22.1 w_23).bind fun w_24 =>
  some ((), w_24)) else none) else (some ((), w))
noncomputable def ref02_Key_Encrypt_l0_b (K : Nat) (rec : Option Addr → Addr → Addr → Int → Int → World → Option ((Unit) × World)) (k0 : Option Addr) (b3 : Addr) (a4 : Addr) (n5 : Int) (r6 : Int) (w : World) : Option ((Unit) × World) :=
  if (decide (r6 ≤ n5)) = true then (bnd (newB z41 41 w) fun t_10 w_11 =>
  bnd (ref02_Key_Encrypt_l1 K K k0 b3 a4 n5 r6 t_10 0 w_11) fun y_18 w_19 =>
  bnd (ref02_Key_Encrypt_s3 K k0 t_10 (decide (r6 < n5)) w_19) fun y_25 w_26 =>
  (ldA 16 t_10 w_26).bind fun v_27 =>
  bnd (ref02_Key_added K k0 v_27 r6 w_26) fun r_28 w_29 =>
  if (r_28.1).size = 16 then ((stA b3 r_28.1 w_29).bind fun w_30 =>
  rec k0 b3 a4 n5 (IntKind.i64.wrap (r6 + 1)) w_30) else none) else (some ((), w))
noncomputable def ref02_Key_Encrypt_l0 (K : Nat) (n : Nat) : Option Addr → Addr → Addr → Int → Int → World → Option ((Unit) × World) := iter (fun _ _ _ _ _ _ => none) (ref02_Key_Encrypt_l0_b K) n
/-- (*coffer/cofferref02.Key).Encrypt -/
noncomputable def ref02_Key_Encrypt (K : Nat) (k0 : Option Addr) (b1 : Array Value) (w : World) : Option (((Array Value) × Unit) × World) :=
  bnd (newB b1 41 w) fun p_1 w_2 =>
  bnd (newB z41 41 w_2) fun p_3 w_4 =>
  (ldA 16 p_1 w_4).bind fun v_5 =>
  bnd (ref02_Key_added K k0 v_5 0 w_4) fun r_6 w_7 =>
  if (r_6.1).size = 16 then ((stA p_1 r_6.1 w_7).bind fun w_8 =>
  (ref02_Key_Rounds k0 w_8).bind fun r_9 =>
  bnd (ref02_Key_Encrypt_l0 K K k0 p_1 p_3 r_9.1 1 w_8) fun y_31 w_32 =>
  (ldA 16 p_1 w_32).bind fun v_33 =>
  if (v_33).size = 16 then ((stA p_3 v_33 w_32).bind fun w_34 =>
  (ldA 16 p_3 w_34).bind fun res_35 =>
  some ((res_35, ()), w_34)) else none) else none
theorem ref02_Key_Encrypt_l2_ok (K : Nat) (n : Nat) : StmtNOk prog [(0, .ptr), (3, .addr), (4, .addr), (5, .int .i64), (6, .int .i64), (7, .addr), (8, .int .i64), (9, .int .i64)] [] [(9, 10), (24, 47)] ((fun n x w => ref02_Key_Encrypt_l2 K n x.1 x.2.1 x.2.2.1 x.2.2.2.1 x.2.2.2.2.1 x.2.2.2.2.2.1 x.2.2.2.2.2.2.1 x.2.2.2.2.2.2.2.1 w) n) (.block 4 (.loop (cd (bodyOf f24) [1, 1, 1, 0, 1, 0, 0, 1, 0, 0, 1, 0, 1, 0, 0, 1, 0, 0, 1, 0, 0]))) :=
    mk_loopN (O := tabL []) (root := (bodyOf f24)) (π := [1, 1, 1, 0, 1, 0, 0, 1, 0, 0, 1, 0, 1, 0, 0, 1, 0, 0, 1, 0, 0]) (id := 4) (Li := [(0, .ptr), (3, .addr), (4, .addr), (5, .int .i64), (6, .int .i64), (7, .addr), (8, .int .i64), (9, .int .i64)]) (Lo := []) (S := (fun n x w => ref02_Key_Encrypt_l2 K n x.1 x.2.1 x.2.2.1 x.2.2.2.1 x.2.2.2.2.1 x.2.2.2.2.2.1 x.2.2.2.2.2.2.1 x.2.2.2.2.2.2.2.1 w)) (body := cd (bodyOf f24) [1, 1, 1, 0, 1, 0, 0, 1, 0, 0, 1, 0, 1, 0, 0, 1, 0, 0, 1, 0, 0]) (ref02_Key_Encrypt_Eok K) (ref02_Key_Encrypt_Rok K) rfl (Orc.nil _ _ _) (by kernel_rfl) (fun _ _ => by kernel_rfl) (fun _ _ _ => by kernel_rfl) n
noncomputable def ref02_Key_Encrypt_l2_se (K : Nat) : SE := stmtN [(0, .ptr), (3, .addr), (4, .addr), (5, .int .i64), (6, .int .i64), (7, .addr), (8, .int .i64), (9, .int .i64)] [] [(9, 10), (24, 47)] (fun x w => ref02_Key_Encrypt_l2 K K x.1 x.2.1 x.2.2.1 x.2.2.2.1 x.2.2.2.2.1 x.2.2.2.2.2.1 x.2.2.2.2.2.2.1 x.2.2.2.2.2.2.2.1 w)
theorem ref02_Key_Encrypt_l2_se_ok (K : Nat) (R : Rg) (h : subRB [(9, 10), (24, 47)] R = true) : (ref02_Key_Encrypt_l2_se K).Ok prog R (.block 4 (.loop (cd (bodyOf f24) [1, 1, 1, 0, 1, 0, 0, 1, 0, 0, 1, 0, 1, 0, 0, 1, 0, 0, 1, 0, 0]))) := stmtN_ok (Li := [(0, .ptr), (3, .addr), (4, .addr), (5, .int .i64), (6, .int .i64), (7, .addr), (8, .int .i64), (9, .int .i64)]) (Lo := []) (S := (fun x w => ref02_Key_Encrypt_l2 K K x.1 x.2.1 x.2.2.1 x.2.2.2.1 x.2.2.2.2.1 x.2.2.2.2.2.1 x.2.2.2.2.2.2.1 x.2.2.2.2.2.2.2.1 w)) (ref02_Key_Encrypt_l2_ok K K) (subR_of h)
theorem ref02_Key_Encrypt_l1_ok (K : Nat) (n : Nat) : StmtNOk prog [(0, .ptr), (3, .addr), (4, .addr), (5, .int .i64), (6, .int .i64), (7, .addr), (8, .int .i64)] [] [(8, 10), (20, 47)] ((fun n x w => ref02_Key_Encrypt_l1 K n x.1 x.2.1 x.2.2.1 x.2.2.2.1 x.2.2.2.2.1 x.2.2.2.2.2.1 x.2.2.2.2.2.2.1 w) n) (.block 2 (.loop (cd (bodyOf f24) [1, 1, 1, 0, 1, 0, 0, 1, 0, 0, 1, 0, 1, 0, 0]))) :=
    mk_loopN (O := tabL [([1, 1, 1, 0, 1, 0, 0, 1, 0, 0, 1, 0, 1, 0, 0, 1, 0, 0, 1], ref02_Key_Encrypt_l2_se K)]) (root := (bodyOf f24)) (π := [1, 1, 1, 0, 1, 0, 0, 1, 0, 0, 1, 0, 1, 0, 0]) (id := 2) (Li := [(0, .ptr), (3, .addr), (4, .addr), (5, .int .i64), (6, .int .i64), (7, .addr), (8, .int .i64)]) (Lo := []) (S := (fun n x w => ref02_Key_Encrypt_l1 K n x.1 x.2.1 x.2.2.1 x.2.2.2.1 x.2.2.2.2.1 x.2.2.2.2.2.1 x.2.2.2.2.2.2.1 w)) (body := cd (bodyOf f24) [1, 1, 1, 0, 1, 0, 0, 1, 0, 0, 1, 0, 1, 0, 0]) (ref02_Key_Encrypt_Eok K) (ref02_Key_Encrypt_Rok K) rfl (Orc.cons (by kernel_rfl) (ref02_Key_Encrypt_l2_se_ok K [(8, 10), (20, 47)] (by kernel_rfl)) (Orc.nil _ _ _)) (by kernel_rfl) (fun _ _ => by kernel_rfl) (fun _ _ _ => by kernel_rfl) n
noncomputable def ref02_Key_Encrypt_l1_se (K : Nat) : SE := stmtN [(0, .ptr), (3, .addr), (4, .addr), (5, .int .i64), (6, .int .i64), (7, .addr), (8, .int .i64)] [] [(8, 10), (20, 47)] (fun x w => ref02_Key_Encrypt_l1 K K x.1 x.2.1 x.2.2.1 x.2.2.2.1 x.2.2.2.2.1 x.2.2.2.2.2.1 x.2.2.2.2.2.2.1 w)
theorem ref02_Key_Encrypt_l1_se_ok (K : Nat) (R : Rg) (h : subRB [(8, 10), (20, 47)] R = true) : (ref02_Key_Encrypt_l1_se K).Ok prog R (.block 2 (.loop (cd (bodyOf f24) [1, 1, 1, 0, 1, 0, 0, 1, 0, 0, 1, 0, 1, 0, 0]))) := stmtN_ok (Li := [(0, .ptr), (3, .addr), (4, .addr), (5, .int .i64), (6, .int .i64), (7, .addr), (8, .int .i64)]) (Lo := []) (S := (fun x w => ref02_Key_Encrypt_l1 K K x.1 x.2.1 x.2.2.1 x.2.2.2.1 x.2.2.2.2.1 x.2.2.2.2.2.1 x.2.2.2.2.2.2.1 w)) (ref02_Key_Encrypt_l1_ok K K) (subR_of h)
theorem ref02_Key_Encrypt_s3_ok (K : Nat) : StmtNOk prog [(0, .ptr), (7, .addr), (49, .bool)] [] [(50, 54)] (fun x w => ref02_Key_Encrypt_s3 K x.1 x.2.1 x.2.2.1 w) (cd (bodyOf f24) [1, 1, 1, 0, 1, 0, 0, 1, 0, 0, 1, 1, 0, 1]) :=
    mk_stmtN (O := tabL []) (root := (bodyOf f24)) (π := [1, 1, 1, 0, 1, 0, 0, 1, 0, 0, 1, 1, 0, 1]) (Li := [(0, .ptr), (7, .addr), (49, .bool)]) (Lo := []) (S := (fun x w => ref02_Key_Encrypt_s3 K x.1 x.2.1 x.2.2.1 w)) (ref02_Key_Encrypt_Eok K) (ref02_Key_Encrypt_Rok K) rfl (Orc.nil _ _ _) (by kernel_rfl) (fun _ _ => by kernel_rfl)
noncomputable def ref02_Key_Encrypt_s3_se (K : Nat) : SE := stmtN [(0, .ptr), (7, .addr), (49, .bool)] [] [(50, 54)] (fun x w => ref02_Key_Encrypt_s3 K x.1 x.2.1 x.2.2.1 w)
theorem ref02_Key_Encrypt_s3_se_ok (K : Nat) (R : Rg) (h : subRB [(50, 54)] R = true) : (ref02_Key_Encrypt_s3_se K).Ok prog R (cd (bodyOf f24) [1, 1, 1, 0, 1, 0, 0, 1, 0, 0, 1, 1, 0, 1]) := stmtN_ok (Li := [(0, .ptr), (7, .addr), (49, .bool)]) (Lo := []) (S := (fun x w => ref02_Key_Encrypt_s3 K x.1 x.2.1 x.2.2.1 w)) (ref02_Key_Encrypt_s3_ok K) (subR_of h)
theorem ref02_Key_Encrypt_l0_ok (K : Nat) (n : Nat) : StmtNOk prog [(0, .ptr), (3, .addr), (4, .addr), (5, .int .i64), (6, .int .i64)] [] [(6, 10), (15, 58)] ((fun n x w => ref02_Key_Encrypt_l0 K n x.1 x.2.1 x.2.2.1 x.2.2.2.1 x.2.2.2.2.1 w) n) (.block 0 (.loop (cd (bodyOf f24) [1, 1, 1, 0, 1, 0, 0]))) :=
    mk_loopN (O := tabL [([1, 1, 1, 0, 1, 0, 0, 1, 0, 0, 1, 0, 1], ref02_Key_Encrypt_l1_se K), ([1, 1, 1, 0, 1, 0, 0, 1, 0, 0, 1, 0, 1, 0, 0, 1, 0, 0, 1], ref02_Key_Encrypt_l2_se K), ([1, 1, 1, 0, 1, 0, 0, 1, 0, 0, 1, 1, 0, 1], ref02_Key_Encrypt_s3_se K)]) (root := (bodyOf f24)) (π := [1, 1, 1, 0, 1, 0, 0]) (id := 0) (Li := [(0, .ptr), (3, .addr), (4, .addr), (5, .int .i64), (6, .int .i64)]) (Lo := []) (S := (fun n x w => ref02_Key_Encrypt_l0 K n x.1 x.2.1 x.2.2.1 x.2.2.2.1 x.2.2.2.2.1 w)) (body := cd (bodyOf f24) [1, 1, 1, 0, 1, 0, 0]) (ref02_Key_Encrypt_Eok K) (ref02_Key_Encrypt_Rok K) rfl (Orc.cons (by kernel_rfl) (ref02_Key_Encrypt_l1_se_ok K [(6, 10), (15, 58)] (by kernel_rfl)) (Orc.cons (by kernel_rfl) (ref02_Key_Encrypt_l2_se_ok K [(6, 10), (15, 58)] (by kernel_rfl)) (Orc.cons (by kernel_rfl) (ref02_Key_Encrypt_s3_se_ok K [(6, 10), (15, 58)] (by kernel_rfl)) (Orc.nil _ _ _)))) (by kernel_rfl) (fun _ _ => by kernel_rfl) (fun _ _ _ => by kernel_rfl) n
noncomputable def ref02_Key_Encrypt_l0_se (K : Nat) : SE := stmtN [(0, .ptr), (3, .addr), (4, .addr), (5, .int .i64), (6, .int .i64)] [] [(6, 10), (15, 58)] (fun x w => ref02_Key_Encrypt_l0 K K x.1 x.2.1 x.2.2.1 x.2.2.2.1 x.2.2.2.2.1 w)
theorem ref02_Key_Encrypt_l0_se_ok (K : Nat) (R : Rg) (h : subRB [(6, 10), (15, 58)] R = true) : (ref02_Key_Encrypt_l0_se K).Ok prog R (.block 0 (.loop (cd (bodyOf f24) [1, 1, 1, 0, 1, 0, 0]))) := stmtN_ok (Li := [(0, .ptr), (3, .addr), (4, .addr), (5, .int .i64), (6, .int .i64)]) (Lo := []) (S := (fun x w => ref02_Key_Encrypt_l0 K K x.1 x.2.1 x.2.2.1 x.2.2.2.1 x.2.2.2.2.1 w)) (ref02_Key_Encrypt_l0_ok K K) (subR_of h)
theorem ref02_Key_Encrypt_facts : FunFacts prog 24 f24 (bodyOf f24) [(0, .ptr), (1, .agg)] [(0, 59)] := ⟨func24, by kernel_rfl, by kernel_rfl, by kernel_rfl, by kernel_rfl, by kernel_rfl⟩
theorem ref02_Key_Encrypt_calls (K : Nat) (x : TT [(0, .ptr), (1, .agg)]) (w : World) (y : TR [.agg]) (w2 : World) (h : ref02_Key_Encrypt K x.1 x.2.1 w = some (y, w2)) : Calls prog 24 (encA [(0, .ptr), (1, .agg)] x).toArray w (fun e w3 => e = .returned (resV (encR [.agg] y)) ∧ w3 = w2) :=
    mk_fun (O := tabL [([1, 1, 1, 0, 1], ref02_Key_Encrypt_l0_se K), ([1, 1, 1, 0, 1, 0, 0, 1, 0, 0, 1, 0, 1], ref02_Key_Encrypt_l1_se K), ([1, 1, 1, 0, 1, 0, 0, 1, 0, 0, 1, 0, 1, 0, 0, 1, 0, 0, 1], ref02_Key_Encrypt_l2_se K), ([1, 1, 1, 0, 1, 0, 0, 1, 0, 0, 1, 1, 0, 1], ref02_Key_Encrypt_s3_se K)]) (Lp := [(0, .ptr), (1, .agg)]) (Rt := [.agg]) (S := (fun x w => ref02_Key_Encrypt K x.1 x.2.1 w)) (ref02_Key_Encrypt_Eok K) (ref02_Key_Encrypt_Rok K) rfl ref02_Key_Encrypt_facts (Orc.cons (by kernel_rfl) (ref02_Key_Encrypt_l0_se_ok K [(0, 59)] (by kernel_rfl)) (Orc.cons (by kernel_rfl) (ref02_Key_Encrypt_l1_se_ok K [(0, 59)] (by kernel_rfl)) (Orc.cons (by kernel_rfl) (ref02_Key_Encrypt_l2_se_ok K [(0, 59)] (by kernel_rfl)) (Orc.cons (by kernel_rfl) (ref02_Key_Encrypt_s3_se_ok K [(0, 59)] (by kernel_rfl)) (Orc.nil _ _ _))))) (fun _ _ => by kernel_rfl) x w y w2 h
noncomputable def ref02_Key_Encrypt_ce (K : Nat) : CE := funE [(0, .ptr), (1, .agg)] [.agg] (fun x w => ref02_Key_Encrypt K x.1 x.2.1 w)
theorem ref02_Key_Encrypt_ok (K : Nat) : (ref02_Key_Encrypt_ce K).Ok prog 24 := funE_ok (Rt := [.agg]) (S := (fun x w => ref02_Key_Encrypt K x.1 x.2.1 w)) ref02_Key_Encrypt_facts fun x w y w2 h => ref02_Key_Encrypt_calls K x w y w2 h

noncomputable def ref02_Key_Decrypt_E (K : Nat) : List (Nat × CE) := [(47, ref02_Key_added_ce K), (48, ref02_Key_columns_ce K)]
theorem ref02_Key_Decrypt_Eok (K : Nat) : Env.Ok prog (tab (ref02_Key_Decrypt_E K)) := (Env.cons (ref02_Key_added_ok K) (Env.cons (ref02_Key_columns_ok K) (Env.nil _)))
noncomputable def ref02_Key_Decrypt_R (K : Nat) : List (Nat × RE) := [(20, ref02_Key_Rounds_re)]
theorem ref02_Key_Decrypt_Rok (K : Nat) : REnv.Ok prog (tab (ref02_Key_Decrypt_R K)) := (REnv.cons (ref02_Key_Rounds_ok) (REnv.nil _))
noncomputable def ref02_Key_Decrypt_s1 (K : Nat) (k0 : Option Addr) (b3 : Addr) (a23 : Bool) (w : World) : Option ((Unit) × World) :=
  if a23 = true then ((ldA 16 b3 w).bind fun v_10 =>
  (prog.built 105 [(0, (.int .u8 14)), (1, (.int .u8 11)), (2, (.int .u8 13)), (3, (.int .u8 9))]).bind fun cs_11 =>
  bnd (ref02_Key_columns K k0 v_10 cs_11 w) fun r_12 w_13 =>
  if (r_12.1).size = 16 then ((stA b3 r_12.1 w_13).bind fun w_14 =>
  some ((), w_14)) else none) else (some ((), w))
noncomputable def ref02_Key_Decrypt_l3_b (K : Nat) (rec : Option Addr → Addr → Addr → Int → Int → Addr → Int → Int → World → Option ((Unit) × World)) (k0 : Option Addr) (b3 : Addr) (a4 : Addr) (n5 : Int) (r6 : Int) (t7 : Addr) (c8 : Int) (i9 : Int) (w : World) : Option ((Unit) × World) :=
  if (decide (i9 < 4)) = true then (if (0 : Int) ≤ (IntKind.i64.wrap ((IntKind.i64.wrap (4 * c8)) + i9)) ∧ (IntKind.i64.wrap ((IntKind.i64.wrap (4 * c8)) + i9)) < ((16 : Nat) : Int) then ((k0).bind fun p_19 =>
  (ldI .u8 (b3.add ((Int.toNat (IntKind.i64.wrap ((IntKind.i64.wrap (4 * c8)) + i9))) * 1)) w.drew).bind fun v_20 =>
  if (0 : Int) ≤ v_20 ∧ v_20 < ((256 : Nat) : Int) then ((ldI .u8 ((p_19.add 258).add ((Int.toNat v_20) * 1)) w.drew).bind fun v_21 =>
  if (0 : Int) ≤ (IntKind.i64.wrap ((IntKind.i64.wrap (4 * (Int.tmod (IntKind.i64.wrap (c8 + i9)) 4))) + i9)) ∧ (IntKind.i64.wrap ((IntKind.i64.wrap (4 * (Int.tmod (IntKind.i64.wrap (c8 + i9)) 4))) + i9)) < ((16 : Nat) : Int) then ((stC (t7.add ((Int.toNat (IntKind.i64.wrap ((IntKind.i64.wrap (4 * (Int.tmod (IntKind.i64.wrap (c8 + i9)) 4))) + i9))) * 1)) (.int .u8 v_21) w.drew).bind fun w_22 =>
  rec k0 b3 a4 n5 r6 t7 c8 (IntKind.i64.wrap (i9 + 1)) w_22) else none) else none) else none) else (some ((), w))
noncomputable def ref02_Key_Decrypt_l3 (K : Nat) (n : Nat) : Option Addr → Addr → Addr → Int → Int → Addr → Int → Int → World → Option ((Unit) × World) := iter (fun _ _ _ _ _ _ _ _ _ => none) (ref02_Key_Decrypt_l3_b K) n
noncomputable def ref02_Key_Decrypt_l2_b (K : Nat) (rec : Option Addr → Addr → Addr → Int → Int → Addr → Int → World → Option ((Unit) × World)) (k0 : Option Addr) (b3 : Addr) (a4 : Addr) (n5 : Int) (r6 : Int) (t7 : Addr) (c8 : Int) (w : World) : Option ((Unit) × World) :=
  if (decide (c8 < 4)) = true then (bnd (ref02_Key_Decrypt_l3 K K k0 b3 a4 n5 r6 t7 c8 0 w) fun y_23 w_24 =>
  rec k0 b3 a4 n5 r6 t7 (IntKind.i64.wrap (c8 + 1)) w_24) else (some ((), w))
noncomputable def ref02_Key_Decrypt_l2 (K : Nat) (n : Nat) : Option Addr → Addr → Addr → Int → Int → Addr → Int → World → Option ((Unit) × World) := iter (fun _ _ _ _ _ _ _ _ => none) (ref02_Key_Decrypt_l2_b K) n
noncomputable def ref02_Key_Decrypt_l0_b (K : Nat) (rec : Option Addr → Addr → Addr → Int → Int → World → Option ((Unit) × World)) (k0 : Option Addr) (b3 : Addr) (a4 : Addr) (n5 : Int) (r6 : Int) (w : World) : Option ((Unit) × World) :=
  if (decide (r6 ≥ 1)) = true then ((ldA 16 b3 w).bind fun v_6 =>
  bnd (ref02_Key_added K k0 v_6 r6 w) fun r_7 w_8 =>
  if (r_7.1).size = 16 then ((stA b3 r_7.1 w_8).bind fun w_9 =>
  bnd (ref02_Key_Decrypt_s1 K k0 b3 (decide (r6 < n5)) w_9) fun y_15 w_16 =>
  bnd (newB z41 41 w_16) fun t_17 w_18 =>
  bnd (ref02_Key_Decrypt_l2 K K k0 b3 a4 n5 r6 t_17 0 w_18) fun y_25 w_26 =>
  (ldA 16 t_17 w_26).bind fun v_27 =>
  if (v_27).size = 16 then ((stA b3 v_27 w_26).bind fun w_28 =>
  rec k0 b3 a4 n5 (IntKind.i64.wrap (r6 - 1)) w_28) else none) else none) else (some ((), w))
noncomputable def ref02_Key_Decrypt_l0 (K : Nat) (n : Nat) : Option Addr → Addr → Addr → Int → Int → World → Option ((Unit) × World) := iter (fun _ _ _ _ _ _ => none) (ref02_Key_Decrypt_l0_b K) n
/-- (*coffer/cofferref02.Key).Decrypt -/
noncomputable def ref02_Key_Decrypt (K : Nat) (k0 : Option Addr) (b1 : Array Value) (w : World) : Option (((Array Value) × Unit) × World) :=
  bnd (newB b1 41 w) fun p_1 w_2 =>
  bnd (newB z41 41 w_2) fun p_3 w_4 =>
  (ref02_Key_Rounds k0 w_4).bind fun r_5 =>
  bnd (ref02_Key_Decrypt_l0 K K k0 p_1 p_3 r_5.1 r_5.1 w_4) fun y_29 w_30 =>
  (ldA 16 p_1 w_30).bind fun v_31 =>
  bnd (ref02_Key_added K k0 v_31 0 w_30) fun r_32 w_33 =>
  if (r_32.1).size = 16 then ((stA p_3 r_32.1 w_33).bind fun w_34 =>
  (ldA 16 p_3 w_34).bind fun res_35 =>
  some ((res_35, ()), w_34)) else none
theorem ref02_Key_Decrypt_s1_ok (K : Nat) : StmtNOk prog [(0, .ptr), (3, .addr), (23, .bool)] [] [(24, 28)] (fun x w => ref02_Key_Decrypt_s1 K x.1 x.2.1 x.2.2.1 w) (cd (bodyOf f25) [1, 1, 0, 1, 0, 0, 1, 0, 0, 1, 0, 1]) :=
    mk_stmtN (O := tabL []) (root := (bodyOf f25)) (π := [1, 1, 0, 1, 0, 0, 1, 0, 0, 1, 0, 1]) (Li := [(0, .ptr), (3, .addr), (23, .bool)]) (Lo := []) (S := (fun x w => ref02_Key_Decrypt_s1 K x.1 x.2.1 x.2.2.1 w)) (ref02_Key_Decrypt_Eok K) (ref02_Key_Decrypt_Rok K) rfl (Orc.nil _ _ _) (by kernel_rfl) (fun _ _ => by kernel_rfl)
noncomputable def ref02_Key_Decrypt_s1_se (K : Nat) : SE := stmtN [(0, .ptr), (3, .addr), (23, .bool)] [] [(24, 28)] (fun x w => ref02_Key_Decrypt_s1 K x.1 x.2.1 x.2.2.1 w)
theorem ref02_Key_Decrypt_s1_se_ok (K : Nat) (R : Rg) (h : subRB [(24, 28)] R = true) : (ref02_Key_Decrypt_s1_se K).Ok prog R (cd (bodyOf f25) [1, 1, 0, 1, 0, 0, 1, 0, 0, 1, 0, 1]) := stmtN_ok (Li := [(0, .ptr), (3, .addr), (23, .bool)]) (Lo := []) (S := (fun x w => ref02_Key_Decrypt_s1 K x.1 x.2.1 x.2.2.1 w)) (ref02_Key_Decrypt_s1_ok K) (subR_of h)
theorem ref02_Key_Decrypt_l3_ok (K : Nat) (n : Nat) : StmtNOk prog [(0, .ptr), (3, .addr), (4, .addr), (5, .int .i64), (6, .int .i64), (7, .addr), (8, .int .i64), (9, .int .i64)] [] [(9, 10), (32, 55)] ((fun n x w => ref02_Key_Decrypt_l3 K n x.1 x.2.1 x.2.2.1 x.2.2.2.1 x.2.2.2.2.1 x.2.2.2.2.2.1 x.2.2.2.2.2.2.1 x.2.2.2.2.2.2.2.1 w) n) (.block 4 (.loop (cd (bodyOf f25) [1, 1, 0, 1, 0, 0, 1, 0, 0, 1, 1, 1, 0, 1, 0, 0, 1, 0, 0, 1, 0, 0]))) :=
    mk_loopN (O := tabL []) (root := (bodyOf f25)) (π := [1, 1, 0, 1, 0, 0, 1, 0, 0, 1, 1, 1, 0, 1, 0, 0, 1, 0, 0, 1, 0, 0]) (id := 4) (Li := [(0, .ptr), (3, .addr), (4, .addr), (5, .int .i64), (6, .int .i64), (7, .addr), (8, .int .i64), (9, .int .i64)]) (Lo := []) (S := (fun n x w => ref02_Key_Decrypt_l3 K n x.1 x.2.1 x.2.2.1 x.2.2.2.1 x.2.2.2.2.1 x.2.2.2.2.2.1 x.2.2.2.2.2.2.1 x.2.2.2.2.2.2.2.1 w)) (body := cd (bodyOf f25) [1, 1, 0, 1, 0, 0, 1, 0, 0, 1, 1, 1, 0, 1, 0, 0, 1, 0, 0, 1, 0, 0]) (ref02_Key_Decrypt_Eok K) (ref02_Key_Decrypt_Rok K) rfl (Orc.nil _ _ _) (by kernel_rfl) (fun _ _ => by kernel_rfl) (fun _ _ _ => by kernel_rfl) n
noncomputable def ref02_Key_Decrypt_l3_se (K : Nat) : SE := stmtN [(0, .ptr), (3, .addr), (4, .addr), (5, .int .i64), (6, .int .i64), (7, .addr), (8, .int .i64), (9, .int .i64)] [] [(9, 10), (32, 55)] (fun x w => ref02_Key_Decrypt_l3 K K x.1 x.2.1 x.2.2.1 x.2.2.2.1 x.2.2.2.2.1 x.2.2.2.2.2.1 x.2.2.2.2.2.2.1 x.2.2.2.2.2.2.2.1 w)
theorem ref02_Key_Decrypt_l3_se_ok (K : Nat) (R : Rg) (h : subRB [(9, 10), (32, 55)] R = true) : (ref02_Key_Decrypt_l3_se K).Ok prog R (.block 4 (.loop (cd (bodyOf f25) [1, 1, 0, 1, 0, 0, 1, 0, 0, 1, 1, 1, 0, 1, 0, 0, 1, 0, 0, 1, 0, 0]))) := stmtN_ok (Li := [(0, .ptr), (3, .addr), (4, .addr), (5, .int .i64), (6, .int .i64), (7, .addr), (8, .int .i64), (9, .int .i64)]) (Lo := []) (S := (fun x w => ref02_Key_Decrypt_l3 K K x.1 x.2.1 x.2.2.1 x.2.2.2.1 x.2.2.2.2.1 x.2.2.2.2.2.1 x.2.2.2.2.2.2.1 x.2.2.2.2.2.2.2.1 w)) (ref02_Key_Decrypt_l3_ok K K) (subR_of h)
theorem ref02_Key_Decrypt_l2_ok (K : Nat) (n : Nat) : StmtNOk prog [(0, .ptr), (3, .addr), (4, .addr), (5, .int .i64), (6, .int .i64), (7, .addr), (8, .int .i64)] [] [(8, 10), (28, 55)] ((fun n x w => ref02_Key_Decrypt_l2 K n x.1 x.2.1 x.2.2.1 x.2.2.2.1 x.2.2.2.2.1 x.2.2.2.2.2.1 x.2.2.2.2.2.2.1 w) n) (.block 2 (.loop (cd (bodyOf f25) [1, 1, 0, 1, 0, 0, 1, 0, 0, 1, 1, 1, 0, 1, 0, 0]))) :=
    mk_loopN (O := tabL [([1, 1, 0, 1, 0, 0, 1, 0, 0, 1, 1, 1, 0, 1, 0, 0, 1, 0, 0, 1], ref02_Key_Decrypt_l3_se K)]) (root := (bodyOf f25)) (π := [1, 1, 0, 1, 0, 0, 1, 0, 0, 1, 1, 1, 0, 1, 0, 0]) (id := 2) (Li := [(0, .ptr), (3, .addr), (4, .addr), (5, .int .i64), (6, .int .i64), (7, .addr), (8, .int .i64)]) (Lo := []) (S := (fun n x w => ref02_Key_Decrypt_l2 K n x.1 x.2.1 x.2.2.1 x.2.2.2.1 x.2.2.2.2.1 x.2.2.2.2.2.1 x.2.2.2.2.2.2.1 w)) (body := cd (bodyOf f25) [1, 1, 0, 1, 0, 0, 1, 0, 0, 1, 1, 1, 0, 1, 0, 0]) (ref02_Key_Decrypt_Eok K) (ref02_Key_Decrypt_Rok K) rfl (Orc.cons (by kernel_rfl) (ref02_Key_Decrypt_l3_se_ok K [(8, 10), (28, 55)] (by kernel_rfl)) (Orc.nil _ _ _)) (by kernel_rfl) (fun _ _ => by kernel_rfl) (fun _ _ _ => by kernel_rfl) n
noncomputable def ref02_Key_Decrypt_l2_se (K : Nat) : SE := stmtN [(0, .ptr), (3, .addr), (4, .addr), (5, .int .i64), (6, .int .i64), (7, .addr), (8, .int .i64)] [] [(8, 10), (28, 55)] (fun x w => ref02_Key_Decrypt_l2 K K x.1 x.2.1 x.2.2.1 x.2.2.2.1 x.2.2.2.2.1 x.2.2.2.2.2.1 x.2.2.2.2.2.2.1 w)
theorem ref02_Key_Decrypt_l2_se_ok (K : Nat) (R : Rg) (h : subRB [(8, 10), (28, 55)] R = true) : (ref02_Key_Decrypt_l2_se K).Ok prog R (.block 2 (.loop (cd (bodyOf f25) [1, 1, 0, 1, 0, 0, 1, 0, 0, 1, 1, 1, 0, 1, 0, 0]))) := stmtN_ok (Li := [(0, .ptr), (3, .addr), (4, .addr), (5, .int .i64), (6, .int .i64), (7, .addr), (8, .int .i64)]) (Lo := []) (S := (fun x w => ref02_Key_Decrypt_l2 K K x.1 x.2.1 x.2.2.1 x.2.2.2.1 x.2.2.2.2.1 x.2.2.2.2.2.1 x.2.2.2.2.2.2.1 w)) (ref02_Key_Decrypt_l2_ok K K) (subR_of h)
theorem ref02_Key_Decrypt_l0_ok (K : Nat) (n : Nat) : StmtNOk prog [(0, .ptr), (3, .addr), (4, .addr), (5, .int .i64), (6, .int .i64)] [] [(6, 10), (13, 56)] ((fun n x w => ref02_Key_Decrypt_l0 K n x.1 x.2.1 x.2.2.1 x.2.2.2.1 x.2.2.2.2.1 w) n) (.block 0 (.loop (cd (bodyOf f25) [1, 1, 0, 1, 0, 0]))) :=
    mk_loopN (O := tabL [([1, 1, 0, 1, 0, 0, 1, 0, 0, 1, 0, 1], ref02_Key_Decrypt_s1_se K), ([1, 1, 0, 1, 0, 0, 1, 0, 0, 1, 1, 1, 0, 1], ref02_Key_Decrypt_l2_se K), ([1, 1, 0, 1, 0, 0, 1, 0, 0, 1, 1, 1, 0, 1, 0, 0, 1, 0, 0, 1], ref02_Key_Decrypt_l3_se K)]) (root := (bodyOf f25)) (π := [1, 1, 0, 1, 0, 0]) (id := 0) (Li := [(0, .ptr), (3, .addr), (4, .addr), (5, .int .i64), (6, .int .i64)]) (Lo := []) (S := (fun n x w => ref02_Key_Decrypt_l0 K n x.1 x.2.1 x.2.2.1 x.2.2.2.1 x.2.2.2.2.1 w)) (body := cd (bodyOf f25) [1, 1, 0, 1, 0, 0]) (ref02_Key_Decrypt_Eok K) (ref02_Key_Decrypt_Rok K) rfl (Orc.cons (by kernel_rfl) (ref02_Key_Decrypt_s1_se_ok K [(6, 10), (13, 56)] (by kernel_rfl)) (Orc.cons (by kernel_rfl) (ref02_Key_Decrypt_l2_se_ok K [(6, 10), (13, 56)] (by kernel_rfl)) (Orc.cons (by kernel_rfl) (ref02_Key_Decrypt_l3_se_ok K [(6, 10), (13, 56)] (by kernel_rfl)) (Orc.nil _ _ _)))) (by kernel_rfl) (fun _ _ => by kernel_rfl) (fun _ _ _ => by kernel_rfl) n
noncomputable def ref02_Key_Decrypt_l0_se (K : Nat) : SE := stmtN [(0, .ptr), (3, .addr), (4, .addr), (5, .int .i64), (6, .int .i64)] [] [(6, 10), (13, 56)] (fun x w => ref02_Key_Decrypt_l0 K K x.1 x.2.1 x.2.2.1 x.2.2.2.1 x.2.2.2.2.1 w)
theorem ref02_Key_Decrypt_l0_se_ok (K : Nat) (R : Rg) (h : subRB [(6, 10), (13, 56)] R = true) : (ref02_Key_Decrypt_l0_se K).Ok prog R (.block 0 (.loop (cd (bodyOf f25) [1, 1, 0, 1, 0, 0]))) := stmtN_ok (Li := [(0, .ptr), (3, .addr), (4, .addr), (5, .int .i64), (6, .int .i64)]) (Lo := []) (S := (fun x w => ref02_Key_Decrypt_l0 K K x.1 x.2.1 x.2.2.1 x.2.2.2.1 x.2.2.2.2.1 w)) (ref02_Key_Decrypt_l0_ok K K) (subR_of h)
theorem ref02_Key_Decrypt_facts : FunFacts prog 25 f25 (bodyOf f25) [(0, .ptr), (1, .agg)] [(0, 59)] := ⟨func25, by kernel_rfl, by kernel_rfl, by kernel_rfl, by kernel_rfl, by kernel_rfl⟩
theorem ref02_Key_Decrypt_calls (K : Nat) (x : TT [(0, .ptr), (1, .agg)]) (w : World) (y : TR [.agg]) (w2 : World) (h : ref02_Key_Decrypt K x.1 x.2.1 w = some (y, w2)) : Calls prog 25 (encA [(0, .ptr), (1, .agg)] x).toArray w (fun e w3 => e = .returned (resV (encR [.agg] y)) ∧ w3 = w2) :=
    mk_fun (O := tabL [([1, 1, 0, 1], ref02_Key_Decrypt_l0_se K), ([1, 1, 0, 1, 0, 0, 1, 0, 0, 1, 0, 1], ref02_Key_Decrypt_s1_se K), ([1, 1, 0, 1, 0, 0, 1, 0, 0, 1, 1, 1, 0, 1], ref02_Key_Decrypt_l2_se K), ([1, 1, 0, 1, 0, 0, 1, 0, 0, 1, 1, 1, 0, 1, 0, 0, 1, 0, 0, 1], ref02_Key_Decrypt_l3_se K)]) (Lp := [(0, .ptr), (1, .agg)]) (Rt := [.agg]) (S := (fun x w => ref02_Key_Decrypt K x.1 x.2.1 w)) (ref02_Key_Decrypt_Eok K) (ref02_Key_Decrypt_Rok K) rfl ref02_Key_Decrypt_facts (Orc.cons (by kernel_rfl) (ref02_Key_Decrypt_l0_se_ok K [(0, 59)] (by kernel_rfl)) (Orc.cons (by kernel_rfl) (ref02_Key_Decrypt_s1_se_ok K [(0, 59)] (by kernel_rfl)) (Orc.cons (by kernel_rfl) (ref02_Key_Decrypt_l2_se_ok K [(0, 59)] (by kernel_rfl)) (Orc.cons (by kernel_rfl) (ref02_Key_Decrypt_l3_se_ok K [(0, 59)] (by kernel_rfl)) (Orc.nil _ _ _))))) (fun _ _ => by kernel_rfl) x w y w2 h
noncomputable def ref02_Key_Decrypt_ce (K : Nat) : CE := funE [(0, .ptr), (1, .agg)] [.agg] (fun x w => ref02_Key_Decrypt K x.1 x.2.1 w)
theorem ref02_Key_Decrypt_ok (K : Nat) : (ref02_Key_Decrypt_ce K).Ok prog 25 := funE_ok (Rt := [.agg]) (S := (fun x w => ref02_Key_Decrypt K x.1 x.2.1 w)) ref02_Key_Decrypt_facts fun x w y w2 h => ref02_Key_Decrypt_calls K x w y w2 h

noncomputable def law02_RijndaelBlocks_E (K : Nat) : List (Nat × CE) := [(10, rijndael_New_ce K), (11, ref02_New_ce K), (22, rijndael_Key_Encrypt_ce K), (23, rijndael_Key_Decrypt_ce K), (24, ref02_Key_Encrypt_ce K), (25, ref02_Key_Decrypt_ce K)]
theorem law02_RijndaelBlocks_Eok (K : Nat) : Env.Ok prog (tab (law02_RijndaelBlocks_E K)) := (Env.cons (rijndael_New_ok K) (Env.cons (ref02_New_ok K) (Env.cons (rijndael_Key_Encrypt_ok K) (Env.cons (rijndael_Key_Decrypt_ok K) (Env.cons (ref02_Key_Encrypt_ok K) (Env.cons (ref02_Key_Decrypt_ok K) (Env.nil _)))))))
noncomputable def law02_RijndaelBlocks_R (K : Nat) : List (Nat × RE) := [(12, law02_num_re)]
theorem law02_RijndaelBlocks_Rok (K : Nat) : REnv.Ok prog (tab (law02_RijndaelBlocks_R K)) := (REnv.cons (law02_num_ok) (REnv.nil _))
noncomputable def law02_RijndaelBlocks_s0 (K : Nat) (k5 : Option Addr) (e6 : Int) (r7 : Option Addr) (f8 : Int) (w : World) : Option ((Bool × Unit) × World) :=
  (law02_num e6).bind fun r_5 =>
  if (r_5.1 != f8) = true then (some ((true, ()), w)) else (some (((!(k5.isNone == r7.isNone)), ()), w))
noncomputable def law02_RijndaelBlocks_s2 (K : Nat) (bs1 : Sl) (i9 : Int) (w : World) : Option ((Bool × Unit) × World) :=
  if (decide (i9 < ((bs1.len : Nat) : Int))) = true then (some (((decide (i9 < 8)), ()), w)) else (some ((false, ()), w))
noncomputable def law02_RijndaelBlocks_s3 (K : Nat) (a10 : Addr) (e11 : Int) (b12 : Addr) (g13 : Int) (w : World) : Option ((Bool × Unit) × World) :=
  (ldA 16 a10 w).bind fun v_24 =>
  (prog.built 42 []).bind fun cs_25 =>
  (eqA prog 42 v_24 cs_25).bind fun b_26 =>
  if (!b_26) = true then (some ((true, ()), w)) else ((ldA 16 b12 w).bind fun v_27 =>
  (prog.built 42 []).bind fun cs_28 =>
  (eqA prog 42 v_27 cs_28).bind fun b_29 =>
  if (!b_29) = true then (some ((true, ()), w)) else ((law02_num e11).bind fun r_30 =>
  if (r_30.1 != 1) = true then (some ((true, ()), w)) else ((law02_num g13).bind fun r_31 =>
  some (((r_31.1 != 1), ()), w))))
noncomputable def law02_RijndaelBlocks_s4 (K : Nat) (bs1 : Sl) (r7 : Option Addr) (i9 : Int) (a10 : Addr) (e11 : Int) (b12 : Addr) (g13 : Int) (w : World) : Option ((Bool × Unit) × World) :=
  (law02_num e11).bind fun r_34 =>
  if (r_34.1 != 0) = true then (some ((true, ()), w.drew)) else ((law02_num g13).bind fun r_35 =>
  if (r_35.1 != 0) = true then (some ((true, ()), w.drew)) else ((bs1.a).bind fun p_36 =>
  if (0 : Int) ≤ i9 ∧ i9 < ((bs1.len : Nat) : Int) then ((ldA 16 a10 w.drew).bind fun v_37 =>
  (ldA 16 (p_36.add ((Int.toNat i9) * 16)) w.drew).bind fun v_38 =>
  bnd (ref02_Key_Encrypt K r7 v_38 w.drew) fun r_39 w_40 =>
  (ldA 16 (p_36.add ((Int.toNat i9) * 16)) w_40).bind fun v_41 =>
  sameK (.agg v_38) (.agg v_41) ((ldA 16 a10 w_40).bind fun v_42 =>
  sameK (.agg v_37) (.agg v_42) ((eqA prog 42 v_37 r_39.1).bind fun b_43 =>
  if (!b_43) = true then ((ldA 16 (p_36.add ((Int.toNat i9) * 16)) w_40).bind fun v_44 =>
  sameK (.agg v_38) (.agg v_44) ((ldA 16 a10 w_40).bind fun v_45 =>
  sameK (.agg v_37) (.agg v_45) (some ((true, ()), w_40)))) else ((bs1.a).bind fun p_46 =>
  if (0 : Int) ≤ i9 ∧ i9 < ((bs1.len : Nat) : Int) then ((ldA 16 b12 w_40).bind fun v_47 =>
  (ldA 16 (p_46.add ((Int.toNat i9) * 16)) w_40).bind fun v_48 =>
  bnd (ref02_Key_Decrypt K r7 v_48 w_40) fun r_49 w_50 =>
  (ldA 16 (p_46.add ((Int.toNat i9) * 16)) w_50).bind fun v_51 =>
  sameK (.agg v_48) (.agg v_51) ((ldA 16 b12 w_50).bind fun v_52 =>
  sameK (.agg v_47) (.agg v_52) ((ldA 16 (p_36.add ((Int.toNat i9) * 16)) w_50).bind fun v_53 =>
  sameK (.agg v_38) (.agg v_53) ((ldA 16 a10 w_50).bind fun v_54 =>
  sameK (.agg v_37) (.agg v_54) ((eqA prog 42 v_47 r_49.1).bind fun b_55 =>
  some (((!b_55), ()), w_50)))))) else none)))) else none))
noncomputable def law02_RijndaelBlocks_l1_b (K : Nat) (rec : Sl → Option Addr → Option Addr → Int → World → Option ((Out (Unit) (Bool × Unit)) × World)) (bs1 : Sl) (k5 : Option Addr) (r7 : Option Addr) (i9 : Int) (w : World) : Option ((Out (Unit) (Bool × Unit)) × World) :=
  bnd (law02_RijndaelBlocks_s2 K bs1 i9 w) fun y_8 w_9 =>
  if y_8.1 = true then ((bs1.a).bind fun p_10 =>
  if (0 : Int) ≤ i9 ∧ i9 < ((bs1.len : Nat) : Int) then ((ldA 16 (p_10.add ((Int.toNat i9) * 16)) w_9).bind fun v_11 =>
  bnd (rijndael_Key_Encrypt K k5 v_11 w_9) fun r_12 w_13 =>
  bnd (newB z42 42 w_13) fun a_14 w_15 =>
  if (r_12.1).size = 16 then ((stA a_14 r_12.1 w_15).bind fun w_16 =>
  (bs1.a).bind fun p_17 =>
  if (0 : Int) ≤ i9 ∧ i9 < ((bs1.len : Nat) : Int) then ((ldA 16 (p_17.add ((Int.toNat i9) * 16)) w_16).bind fun v_18 =>
  bnd (rijndael_Key_Decrypt K k5 v_18 w_16) fun r_19 w_20 =>
  bnd (newB z42 42 w_20) fun b_21 w_22 =>
  if (r_19.1).size = 16 then ((stA b_21 r_19.1 w_22).bind fun w_23 =>
  if r7.isNone = true then (bnd (law02_RijndaelBlocks_s3 K a_14 r_12.2.1 b_21 r_19.2.1 w_23) fun y_32 w_33 =>
  if y_32.1 = true then (some (.ret (false, ()), w_33)) else (rec bs1 k5 r7 (IntKind.i64.wrap (i9 + 1)) w_33)) else (bnd (law02_RijndaelBlocks_s4 K bs1 r7 i9 a_14 r_12.2.1 b_21 r_19.2.1 w_23) fun y_56 w_57 =>
  if y_56.1 = true then (some (.ret (false, ()), w_57)) else (rec bs1 k5 r7 (IntKind.i64.wrap (i9 + 1)) w_57))) else none) else none) else none) else none) else (some (.norm (), w_9))
noncomputable def law02_RijndaelBlocks_l1 (K : Nat) (n : Nat) : Sl → Option Addr → Option Addr → Int → World → Option ((Out (Unit) (Bool × Unit)) × World) := iter (fun _ _ _ _ _ => none) (law02_RijndaelBlocks_l1_b K) n
/-- coffer/cofferlaw02.RijndaelBlocks -/
noncomputable def law02_RijndaelBlocks (K : Nat) (key0 : Sl) (bs1 : Sl) (w : World) : Option ((Bool × Unit) × World) :=
  bnd (rijndael_New K key0 w) fun r_1 w_2 =>
  bnd (ref02_New K key0 w_2) fun r_3 w_4 =>
  bnd (law02_RijndaelBlocks_s0 K r_1.1 r_1.2.1 r_3.1 r_3.2.1 w_4) fun y_6 w_7 =>
  if y_6.1 = true then (some ((false, ()), w_7)) else (bnd (law02_RijndaelBlocks_l1 K K bs1 r_1.1 r_3.1 0 w_7) fun y_58 w_59 =>
  (match y_58 with
  | .norm z_60n => (some ((true, ()), w_59))
  | .ret z_60r => (some ((z_60r.1, ()), w_59))))
theorem law02_RijndaelBlocks_s0_ok (K : Nat) : StmtNOk prog [(5, .ptr), (6, .int .i64), (7, .ptr), (8, .int .i64)] [(34, .bool)] [(24, 35)] (fun x w => law02_RijndaelBlocks_s0 K x.1 x.2.1 x.2.2.1 x.2.2.2.1 w) (cd (bodyOf f4) [1, 1, 1, 0, 0]) :=
    mk_stmtN (O := tabL []) (root := (bodyOf f4)) (π := [1, 1, 1, 0, 0]) (Li := [(5, .ptr), (6, .int .i64), (7, .ptr), (8, .int .i64)]) (Lo := [(34, .bool)]) (S := (fun x w => law02_RijndaelBlocks_s0 K x.1 x.2.1 x.2.2.1 x.2.2.2.1 w)) (law02_RijndaelBlocks_Eok K) (law02_RijndaelBlocks_Rok K) rfl (Orc.nil _ _ _) (by kernel_rfl) (fun _ _ => by kernel_rfl)
noncomputable def law02_RijndaelBlocks_s0_se (K : Nat) : SE := stmtN [(5, .ptr), (6, .int .i64), (7, .ptr), (8, .int .i64)] [(34, .bool)] [(24, 35)] (fun x w => law02_RijndaelBlocks_s0 K x.1 x.2.1 x.2.2.1 x.2.2.2.1 w)
theorem law02_RijndaelBlocks_s0_se_ok (K : Nat) (R : Rg) (h : subRB [(24, 35)] R = true) : (law02_RijndaelBlocks_s0_se K).Ok prog R (cd (bodyOf f4) [1, 1, 1, 0, 0]) := stmtN_ok (Li := [(5, .ptr), (6, .int .i64), (7, .ptr), (8, .int .i64)]) (Lo := [(34, .bool)]) (S := (fun x w => law02_RijndaelBlocks_s0 K x.1 x.2.1 x.2.2.1 x.2.2.2.1 w)) (law02_RijndaelBlocks_s0_ok K) (subR_of h)
theorem law02_RijndaelBlocks_s2_ok (K : Nat) : StmtNOk prog [(1, .sl), (9, .int .i64)] [(42, .bool)] [(35, 43)] (fun x w => law02_RijndaelBlocks_s2 K x.1 x.2.1 w) (cd (bodyOf f4) [1, 1, 1, 1, 0, 1, 0, 0, 0, 0]) :=
    mk_stmtN (O := tabL []) (root := (bodyOf f4)) (π := [1, 1, 1, 1, 0, 1, 0, 0, 0, 0]) (Li := [(1, .sl), (9, .int .i64)]) (Lo := [(42, .bool)]) (S := (fun x w => law02_RijndaelBlocks_s2 K x.1 x.2.1 w)) (law02_RijndaelBlocks_Eok K) (law02_RijndaelBlocks_Rok K) rfl (Orc.nil _ _ _) (by kernel_rfl) (fun _ _ => by kernel_rfl)
noncomputable def law02_RijndaelBlocks_s2_se (K : Nat) : SE := stmtN [(1, .sl), (9, .int .i64)] [(42, .bool)] [(35, 43)] (fun x w => law02_RijndaelBlocks_s2 K x.1 x.2.1 w)
theorem law02_RijndaelBlocks_s2_se_ok (K : Nat) (R : Rg) (h : subRB [(35, 43)] R = true) : (law02_RijndaelBlocks_s2_se K).Ok prog R (cd (bodyOf f4) [1, 1, 1, 1, 0, 1, 0, 0, 0, 0]) := stmtN_ok (Li := [(1, .sl), (9, .int .i64)]) (Lo := [(42, .bool)]) (S := (fun x w => law02_RijndaelBlocks_s2 K x.1 x.2.1 w)) (law02_RijndaelBlocks_s2_ok K) (subR_of h)
theorem law02_RijndaelBlocks_s3_ok (K : Nat) : StmtNOk prog [(10, .addr), (11, .int .i64), (12, .addr), (13, .int .i64)] [(82, .bool)] [(65, 83)] (fun x w => law02_RijndaelBlocks_s3 K x.1 x.2.1 x.2.2.1 x.2.2.2.1 w) (cd (bodyOf f4) [1, 1, 1, 1, 0, 1, 0, 0, 1, 0, 0, 1, 1, 0, 1, 0, 0, 0]) :=
    mk_stmtN (O := tabL []) (root := (bodyOf f4)) (π := [1, 1, 1, 1, 0, 1, 0, 0, 1, 0, 0, 1, 1, 0, 1, 0, 0, 0]) (Li := [(10, .addr), (11, .int .i64), (12, .addr), (13, .int .i64)]) (Lo := [(82, .bool)]) (S := (fun x w => law02_RijndaelBlocks_s3 K x.1 x.2.1 x.2.2.1 x.2.2.2.1 w)) (law02_RijndaelBlocks_Eok K) (law02_RijndaelBlocks_Rok K) rfl (Orc.nil _ _ _) (by kernel_rfl) (fun _ _ => by kernel_rfl)
noncomputable def law02_RijndaelBlocks_s3_se (K : Nat) : SE := stmtN [(10, .addr), (11, .int .i64), (12, .addr), (13, .int .i64)] [(82, .bool)] [(65, 83)] (fun x w => law02_RijndaelBlocks_s3 K x.1 x.2.1 x.2.2.1 x.2.2.2.1 w)
theorem law02_RijndaelBlocks_s3_se_ok (K : Nat) (R : Rg) (h : subRB [(65, 83)] R = true) : (law02_RijndaelBlocks_s3_se K).Ok prog R (cd (bodyOf f4) [1, 1, 1, 1, 0, 1, 0, 0, 1, 0, 0, 1, 1, 0, 1, 0, 0, 0]) := stmtN_ok (Li := [(10, .addr), (11, .int .i64), (12, .addr), (13, .int .i64)]) (Lo := [(82, .bool)]) (S := (fun x w => law02_RijndaelBlocks_s3 K x.1 x.2.1 x.2.2.1 x.2.2.2.1 w)) (law02_RijndaelBlocks_s3_ok K) (subR_of h)
theorem law02_RijndaelBlocks_s4_ok (K : Nat) : StmtNOk prog [(1, .sl), (7, .ptr), (9, .int .i64), (10, .addr), (11, .int .i64), (12, .addr), (13, .int .i64)] [(110, .bool)] [(83, 111)] (fun x w => law02_RijndaelBlocks_s4 K x.1 x.2.1 x.2.2.1 x.2.2.2.1 x.2.2.2.2.1 x.2.2.2.2.2.1 x.2.2.2.2.2.2.1 w) (cd (bodyOf f4) [1, 1, 1, 1, 0, 1, 0, 0, 1, 0, 0, 1, 1, 1, 0]) :=
    mk_regionH (R := [(83, 111)]) (Li := [(1, .sl), (7, .ptr), (9, .int .i64), (10, .addr), (11, .int .i64), (12, .addr), (13, .int .i64)]) (Lo := [(110, .bool)]) (S := (fun x w => law02_RijndaelBlocks_s4 K x.1 x.2.1 x.2.2.1 x.2.2.2.1 x.2.2.2.2.1 x.2.2.2.2.2.1 x.2.2.2.2.2.2.1 w)) (law02_RijndaelBlocks_Eok K) (law02_RijndaelBlocks_Rok K) rfl (fun _ _ => by kernel_rfl)
noncomputable def law02_RijndaelBlocks_s4_se (K : Nat) : SE := stmtN [(1, .sl), (7, .ptr), (9, .int .i64), (10, .addr), (11, .int .i64), (12, .addr), (13, .int .i64)] [(110, .bool)] [(83, 111)] (fun x w => law02_RijndaelBlocks_s4 K x.1 x.2.1 x.2.2.1 x.2.2.2.1 x.2.2.2.2.1 x.2.2.2.2.2.1 x.2.2.2.2.2.2.1 w)
theorem law02_RijndaelBlocks_s4_se_ok (K : Nat) (R : Rg) (h : subRB [(83, 111)] R = true) : (law02_RijndaelBlocks_s4_se K).Ok prog R (cd (bodyOf f4) [1, 1, 1, 1, 0, 1, 0, 0, 1, 0, 0, 1, 1, 1, 0]) := stmtN_ok (Li := [(1, .sl), (7, .ptr), (9, .int .i64), (10, .addr), (11, .int .i64), (12, .addr), (13, .int .i64)]) (Lo := [(110, .bool)]) (S := (fun x w => law02_RijndaelBlocks_s4 K x.1 x.2.1 x.2.2.1 x.2.2.2.1 x.2.2.2.2.1 x.2.2.2.2.2.1 x.2.2.2.2.2.2.1 w)) (law02_RijndaelBlocks_s4_ok K) (subR_of h)
theorem law02_RijndaelBlocks_l1_ok (K : Nat) (n : Nat) : StmtOk prog [(1, .sl), (5, .ptr), (7, .ptr), (9, .int .i64)] [] [(4, .bool)] [(4, 5), (9, 14), (35, 111)] ((fun n x w => law02_RijndaelBlocks_l1 K n x.1 x.2.1 x.2.2.1 x.2.2.2.1 w) n) (.block 0 (.loop (cd (bodyOf f4) [1, 1, 1, 1, 0, 1, 0, 0]))) :=
    mk_loop (O := tabL [([1, 1, 1, 1, 0, 1, 0, 0, 0, 0], law02_RijndaelBlocks_s2_se K), ([1, 1, 1, 1, 0, 1, 0, 0, 1, 0, 0, 1, 1, 0, 1, 0, 0, 0], law02_RijndaelBlocks_s3_se K), ([1, 1, 1, 1, 0, 1, 0, 0, 1, 0, 0, 1, 1, 1, 0], law02_RijndaelBlocks_s4_se K)]) (root := (bodyOf f4)) (π := [1, 1, 1, 1, 0, 1, 0, 0]) (id := 0) (Li := [(1, .sl), (5, .ptr), (7, .ptr), (9, .int .i64)]) (Lo := []) (Lr := [(4, .bool)]) (S := (fun n x w => law02_RijndaelBlocks_l1 K n x.1 x.2.1 x.2.2.1 x.2.2.2.1 w)) (body := cd (bodyOf f4) [1, 1, 1, 1, 0, 1, 0, 0]) (law02_RijndaelBlocks_Eok K) (law02_RijndaelBlocks_Rok K) rfl (Orc.cons (by kernel_rfl) (law02_RijndaelBlocks_s2_se_ok K [(4, 5), (9, 14), (35, 111)] (by kernel_rfl)) (Orc.cons (by kernel_rfl) (law02_RijndaelBlocks_s3_se_ok K [(4, 5), (9, 14), (35, 111)] (by kernel_rfl)) (Orc.cons (by kernel_rfl) (law02_RijndaelBlocks_s4_se_ok K [(4, 5), (9, 14), (35, 111)] (by kernel_rfl)) (Orc.nil _ _ _)))) (by kernel_rfl) (fun _ _ => by kernel_rfl) (fun _ _ _ => by kernel_rfl) n
noncomputable def law02_RijndaelBlocks_l1_se (K : Nat) : SE := stmt [(1, .sl), (5, .ptr), (7, .ptr), (9, .int .i64)] [] [(4, .bool)] [(4, 5), (9, 14), (35, 111)] (fun x w => law02_RijndaelBlocks_l1 K K x.1 x.2.1 x.2.2.1 x.2.2.2.1 w)
theorem law02_RijndaelBlocks_l1_se_ok (K : Nat) (R : Rg) (h : subRB [(4, 5), (9, 14), (35, 111)] R = true) : (law02_RijndaelBlocks_l1_se K).Ok prog R (.block 0 (.loop (cd (bodyOf f4) [1, 1, 1, 1, 0, 1, 0, 0]))) := stmt_ok (Li := [(1, .sl), (5, .ptr), (7, .ptr), (9, .int .i64)]) (Lo := []) (Lr := [(4, .bool)]) (S := (fun x w => law02_RijndaelBlocks_l1 K K x.1 x.2.1 x.2.2.1 x.2.2.2.1 w)) (law02_RijndaelBlocks_l1_ok K K) (subR_of h)
theorem law02_RijndaelBlocks_facts : FunFacts prog 4 f4 (bodyOf f4) [(0, .sl), (1, .sl)] [(0, 111)] := ⟨func4, by kernel_rfl, by kernel_rfl, by kernel_rfl, by kernel_rfl, by kernel_rfl⟩
theorem law02_RijndaelBlocks_calls (K : Nat) (x : TT [(0, .sl), (1, .sl)]) (w : World) (y : TR [.bool]) (w2 : World) (h : law02_RijndaelBlocks K x.1 x.2.1 w = some (y, w2)) : Calls prog 4 (encA [(0, .sl), (1, .sl)] x).toArray w (fun e w3 => e = .returned (resV (encR [.bool] y)) ∧ w3 = w2) :=
    mk_fun (O := tabL [([1, 1, 1, 0, 0], law02_RijndaelBlocks_s0_se K), ([1, 1, 1, 1, 0, 1], law02_RijndaelBlocks_l1_se K), ([1, 1, 1, 1, 0, 1, 0, 0, 0, 0], law02_RijndaelBlocks_s2_se K), ([1, 1, 1, 1, 0, 1, 0, 0, 1, 0, 0, 1, 1, 0, 1, 0, 0, 0], law02_RijndaelBlocks_s3_se K), ([1, 1, 1, 1, 0, 1, 0, 0, 1, 0, 0, 1, 1, 1, 0], law02_RijndaelBlocks_s4_se K)]) (Lp := [(0, .sl), (1, .sl)]) (Rt := [.bool]) (S := (fun x w => law02_RijndaelBlocks K x.1 x.2.1 w)) (law02_RijndaelBlocks_Eok K) (law02_RijndaelBlocks_Rok K) rfl law02_RijndaelBlocks_facts (Orc.cons (by kernel_rfl) (law02_RijndaelBlocks_s0_se_ok K [(0, 111)] (by kernel_rfl)) (Orc.cons (by kernel_rfl) (law02_RijndaelBlocks_l1_se_ok K [(0, 111)] (by kernel_rfl)) (Orc.cons (by kernel_rfl) (law02_RijndaelBlocks_s2_se_ok K [(0, 111)] (by kernel_rfl)) (Orc.cons (by kernel_rfl) (law02_RijndaelBlocks_s3_se_ok K [(0, 111)] (by kernel_rfl)) (Orc.cons (by kernel_rfl) (law02_RijndaelBlocks_s4_se_ok K [(0, 111)] (by kernel_rfl)) (Orc.nil _ _ _)))))) (fun _ _ => by kernel_rfl) x w y w2 h
noncomputable def law02_RijndaelBlocks_ce (K : Nat) : CE := funE [(0, .sl), (1, .sl)] [.bool] (fun x w => law02_RijndaelBlocks K x.1 x.2.1 w)
theorem law02_RijndaelBlocks_ok (K : Nat) : (law02_RijndaelBlocks_ce K).Ok prog 4 := funE_ok (Rt := [.bool]) (S := (fun x w => law02_RijndaelBlocks K x.1 x.2.1 w)) law02_RijndaelBlocks_facts fun x w y w2 h => law02_RijndaelBlocks_calls K x w y w2 h

noncomputable def law02_counted_E (K : Nat) : List (Nat × CE) := []
theorem law02_counted_Eok (K : Nat) : Env.Ok prog (tab (law02_counted_E K)) := (Env.nil _)
noncomputable def law02_counted_R (K : Nat) : List (Nat × RE) := []
theorem law02_counted_Rok (K : Nat) : REnv.Ok prog (tab (law02_counted_R K)) := (REnv.nil _)
noncomputable def law02_counted_l0_b (K : Nat) (rec : Int → Int → Sl → Int → World → Option ((Sl × Unit) × World)) (n0 : Int) (step1 : Int) (l5 : Sl) (i6 : Int) (w : World) : Option ((Sl × Unit) × World) :=
  if (decide (i6 < n0)) = true then (bnd (bldS prog 22 1 #[(0, (.int .u8 (IntKind.u8.wrap (IntKind.i64.wrap (i6 * step1)))))] w) fun s_1 w_2 =>
  bnd (apd prog 22 22 (.slice l5.a l5.len l5.cap) (.slice s_1.a s_1.len s_1.cap) w_2) fun s_3 w_4 =>
  rec n0 step1 s_3 (IntKind.i64.wrap (i6 + 1)) w_4) else (some ((l5, ()), w))
noncomputable def law02_counted_l0 (K : Nat) (n : Nat) : Int → Int → Sl → Int → World → Option ((Sl × Unit) × World) := iter (fun _ _ _ _ _ => none) (law02_counted_l0_b K) n
/-- coffer/cofferlaw02.counted -/
noncomputable def law02_counted (K : Nat) (n0 : Int) (step1 : Int) (w : World) : Option ((Sl × Unit) × World) :=
  bnd (law02_counted_l0 K K n0 step1 ⟨none, 0, 0⟩ 0 w) fun y_5 w_6 =>
  some ((y_5.1, ()), w_6)
theorem law02_counted_l0_ok (K : Nat) (n : Nat) : StmtNOk prog [(0, .int .i64), (1, .int .i64), (5, .sl), (6, .int .i64)] [(5, .sl)] [(5, 19)] ((fun n x w => law02_counted_l0 K n x.1 x.2.1 x.2.2.1 x.2.2.2.1 w) n) (.block 0 (.loop (cd (bodyOf f27) [1, 1, 0, 1, 0, 0]))) :=
    mk_loopN (O := tabL []) (root := (bodyOf f27)) (π := [1, 1, 0, 1, 0, 0]) (id := 0) (Li := [(0, .int .i64), (1, .int .i64), (5, .sl), (6, .int .i64)]) (Lo := [(5, .sl)]) (S := (fun n x w => law02_counted_l0 K n x.1 x.2.1 x.2.2.1 x.2.2.2.1 w)) (body := cd (bodyOf f27) [1, 1, 0, 1, 0, 0]) (law02_counted_Eok K) (law02_counted_Rok K) rfl (Orc.nil _ _ _) (by kernel_rfl) (fun _ _ => by kernel_rfl) (fun _ _ _ => by kernel_rfl) n
noncomputable def law02_counted_l0_se (K : Nat) : SE := stmtN [(0, .int .i64), (1, .int .i64), (5, .sl), (6, .int .i64)] [(5, .sl)] [(5, 19)] (fun x w => law02_counted_l0 K K x.1 x.2.1 x.2.2.1 x.2.2.2.1 w)
theorem law02_counted_l0_se_ok (K : Nat) (R : Rg) (h : subRB [(5, 19)] R = true) : (law02_counted_l0_se K).Ok prog R (.block 0 (.loop (cd (bodyOf f27) [1, 1, 0, 1, 0, 0]))) := stmtN_ok (Li := [(0, .int .i64), (1, .int .i64), (5, .sl), (6, .int .i64)]) (Lo := [(5, .sl)]) (S := (fun x w => law02_counted_l0 K K x.1 x.2.1 x.2.2.1 x.2.2.2.1 w)) (law02_counted_l0_ok K K) (subR_of h)
theorem law02_counted_facts : FunFacts prog 27 f27 (bodyOf f27) [(0, .int .i64), (1, .int .i64)] [(0, 20)] := ⟨func27, by kernel_rfl, by kernel_rfl, by kernel_rfl, by kernel_rfl, by kernel_rfl⟩
theorem law02_counted_calls (K : Nat) (x : TT [(0, .int .i64), (1, .int .i64)]) (w : World) (y : TR [.sl]) (w2 : World) (h : law02_counted K x.1 x.2.1 w = some (y, w2)) : Calls prog 27 (encA [(0, .int .i64), (1, .int .i64)] x).toArray w (fun e w3 => e = .returned (resV (encR [.sl] y)) ∧ w3 = w2) :=
    mk_fun (O := tabL [([1, 1, 0, 1], law02_counted_l0_se K)]) (Lp := [(0, .int .i64), (1, .int .i64)]) (Rt := [.sl]) (S := (fun x w => law02_counted K x.1 x.2.1 w)) (law02_counted_Eok K) (law02_counted_Rok K) rfl law02_counted_facts (Orc.cons (by kernel_rfl) (law02_counted_l0_se_ok K [(0, 20)] (by kernel_rfl)) (Orc.nil _ _ _)) (fun _ _ => by kernel_rfl) x w y w2 h
noncomputable def law02_counted_ce (K : Nat) : CE := funE [(0, .int .i64), (1, .int .i64)] [.sl] (fun x w => law02_counted K x.1 x.2.1 w)
theorem law02_counted_ok (K : Nat) : (law02_counted_ce K).Ok prog 27 := funE_ok (Rt := [.sl]) (S := (fun x w => law02_counted K x.1 x.2.1 w)) law02_counted_facts fun x w y w2 h => law02_counted_calls K x w y w2 h

noncomputable def law02_blockOf_E (K : Nat) : List (Nat × CE) := []
theorem law02_blockOf_Eok (K : Nat) : Env.Ok prog (tab (law02_blockOf_E K)) := (Env.nil _)
noncomputable def law02_blockOf_R (K : Nat) : List (Nat × RE) := []
theorem law02_blockOf_Rok (K : Nat) : REnv.Ok prog (tab (law02_blockOf_R K)) := (REnv.nil _)
noncomputable def law02_blockOf_s1 (K : Nat) (l0 : Sl) (i4 : Int) (w : World) : Option ((Bool × Unit) × World) :=
  if (decide (i4 < 16)) = true then (some (((decide (i4 < ((l0.len : Nat) : Int))), ()), w)) else (some ((false, ()), w))
noncomputable def law02_blockOf_l0_b (K : Nat) (rec : Sl → Addr → Addr → Int → World → Option ((Unit) × World)) (l0 : Sl) (a2 : Addr) (b3 : Addr) (i4 : Int) (w : World) : Option ((Unit) × World) :=
  bnd (law02_blockOf_s1 K l0 i4 w) fun y_5 w_6 =>
  if y_5.1 = true then ((l0.a).bind fun p_7 =>
  if (0 : Int) ≤ i4 ∧ i4 < ((l0.len : Nat) : Int) then ((ldI .u8 (p_7.add ((Int.toNat i4) * 1)) w_6).bind fun v_8 =>
  if (0 : Int) ≤ i4 ∧ i4 < ((16 : Nat) : Int) then ((stC (b3.add ((Int.toNat i4) * 1)) (.int .u8 v_8) w_6).bind fun w_9 =>
  rec l0 a2 b3 (IntKind.i64.wrap (i4 + 1)) w_9) else none) else none) else (some ((), w_6))
noncomputable def law02_blockOf_l0 (K : Nat) (n : Nat) : Sl → Addr → Addr → Int → World → Option ((Unit) × World) := iter (fun _ _ _ _ _ => none) (law02_blockOf_l0_b K) n
/-- coffer/cofferlaw02.blockOf -/
noncomputable def law02_blockOf (K : Nat) (l0 : Sl) (w : World) : Option (((Array Value) × Unit) × World) :=
  bnd (newB z42 42 w) fun p_1 w_2 =>
  bnd (newB z42 42 w_2) fun b_3 w_4 =>
  bnd (law02_blockOf_l0 K K l0 p_1 b_3 0 w_4) fun y_10 w_11 =>
  (ldA 16 b_3 w_11).bind fun v_12 =>
  if (v_12).size = 16 then ((stA p_1 v_12 w_11).bind fun w_13 =>
  (ldA 16 p_1 w_13).bind fun res_14 =>
  some ((res_14, ()), w_13)) else none
theorem law02_blockOf_s1_ok (K : Nat) : StmtNOk prog [(0, .sl), (4, .int .i64)] [(12, .bool)] [(5, 13)] (fun x w => law02_blockOf_s1 K x.1 x.2.1 w) (cd (bodyOf f26) [1, 1, 0, 1, 0, 0, 0, 0]) :=
    mk_stmtN (O := tabL []) (root := (bodyOf f26)) (π := [1, 1, 0, 1, 0, 0, 0, 0]) (Li := [(0, .sl), (4, .int .i64)]) (Lo := [(12, .bool)]) (S := (fun x w => law02_blockOf_s1 K x.1 x.2.1 w)) (law02_blockOf_Eok K) (law02_blockOf_Rok K) rfl (Orc.nil _ _ _) (by kernel_rfl) (fun _ _ => by kernel_rfl)
noncomputable def law02_blockOf_s1_se (K : Nat) : SE := stmtN [(0, .sl), (4, .int .i64)] [(12, .bool)] [(5, 13)] (fun x w => law02_blockOf_s1 K x.1 x.2.1 w)
theorem law02_blockOf_s1_se_ok (K : Nat) (R : Rg) (h : subRB [(5, 13)] R = true) : (law02_blockOf_s1_se K).Ok prog R (cd (bodyOf f26) [1, 1, 0, 1, 0, 0, 0, 0]) := stmtN_ok (Li := [(0, .sl), (4, .int .i64)]) (Lo := [(12, .bool)]) (S := (fun x w => law02_blockOf_s1 K x.1 x.2.1 w)) (law02_blockOf_s1_ok K) (subR_of h)
theorem law02_blockOf_l0_ok (K : Nat) (n : Nat) : StmtNOk prog [(0, .sl), (2, .addr), (3, .addr), (4, .int .i64)] [] [(4, 21)] ((fun n x w => law02_blockOf_l0 K n x.1 x.2.1 x.2.2.1 x.2.2.2.1 w) n) (.block 0 (.loop (cd (bodyOf f26) [1, 1, 0, 1, 0, 0]))) :=
    mk_loopN (O := tabL [([1, 1, 0, 1, 0, 0, 0, 0], law02_blockOf_s1_se K)]) (root := (bodyOf f26)) (π := [1, 1, 0, 1, 0, 0]) (id := 0) (Li := [(0, .sl), (2, .addr), (3, .addr), (4, .int .i64)]) (Lo := []) (S := (fun n x w => law02_blockOf_l0 K n x.1 x.2.1 x.2.2.1 x.2.2.2.1 w)) (body := cd (bodyOf f26) [1, 1, 0, 1, 0, 0]) (law02_blockOf_Eok K) (law02_blockOf_Rok K) rfl (Orc.cons (by kernel_rfl) (law02_blockOf_s1_se_ok K [(4, 21)] (by kernel_rfl)) (Orc.nil _ _ _)) (by kernel_rfl) (fun _ _ => by kernel_rfl) (fun _ _ _ => by kernel_rfl) n
noncomputable def law02_blockOf_l0_se (K : Nat) : SE := stmtN [(0, .sl), (2, .addr), (3, .addr), (4, .int .i64)] [] [(4, 21)] (fun x w => law02_blockOf_l0 K K x.1 x.2.1 x.2.2.1 x.2.2.2.1 w)
theorem law02_blockOf_l0_se_ok (K : Nat) (R : Rg) (h : subRB [(4, 21)] R = true) : (law02_blockOf_l0_se K).Ok prog R (.block 0 (.loop (cd (bodyOf f26) [1, 1, 0, 1, 0, 0]))) := stmtN_ok (Li := [(0, .sl), (2, .addr), (3, .addr), (4, .int .i64)]) (Lo := []) (S := (fun x w => law02_blockOf_l0 K K x.1 x.2.1 x.2.2.1 x.2.2.2.1 w)) (law02_blockOf_l0_ok K K) (subR_of h)
theorem law02_blockOf_facts : FunFacts prog 26 f26 (bodyOf f26) [(0, .sl)] [(0, 22)] := ⟨func26, by kernel_rfl, by kernel_rfl, by kernel_rfl, by kernel_rfl, by kernel_rfl⟩
theorem law02_blockOf_calls (K : Nat) (x : TT [(0, .sl)]) (w : World) (y : TR [.agg]) (w2 : World) (h : law02_blockOf K x.1 w = some (y, w2)) : Calls prog 26 (encA [(0, .sl)] x).toArray w (fun e w3 => e = .returned (resV (encR [.agg] y)) ∧ w3 = w2) :=
    mk_fun (O := tabL [([1, 1, 0, 1], law02_blockOf_l0_se K), ([1, 1, 0, 1, 0, 0, 0, 0], law02_blockOf_s1_se K)]) (Lp := [(0, .sl)]) (Rt := [.agg]) (S := (fun x w => law02_blockOf K x.1 w)) (law02_blockOf_Eok K) (law02_blockOf_Rok K) rfl law02_blockOf_facts (Orc.cons (by kernel_rfl) (law02_blockOf_l0_se_ok K [(0, 22)] (by kernel_rfl)) (Orc.cons (by kernel_rfl) (law02_blockOf_s1_se_ok K [(0, 22)] (by kernel_rfl)) (Orc.nil _ _ _))) (fun _ _ => by kernel_rfl) x w y w2 h
noncomputable def law02_blockOf_ce (K : Nat) : CE := funE [(0, .sl)] [.agg] (fun x w => law02_blockOf K x.1 w)
theorem law02_blockOf_ok (K : Nat) : (law02_blockOf_ce K).Ok prog 26 := funE_ok (Rt := [.agg]) (S := (fun x w => law02_blockOf K x.1 w)) law02_blockOf_facts fun x w y w2 h => law02_blockOf_calls K x w y w2 h

noncomputable def law02_does_E (K : Nat) : List (Nat × CE) := [(10, rijndael_New_ce K), (22, rijndael_Key_Encrypt_ce K), (23, rijndael_Key_Decrypt_ce K)]
theorem law02_does_Eok (K : Nat) : Env.Ok prog (tab (law02_does_E K)) := (Env.cons (rijndael_New_ok K) (Env.cons (rijndael_Key_Encrypt_ok K) (Env.cons (rijndael_Key_Decrypt_ok K) (Env.nil _))))
noncomputable def law02_does_R (K : Nat) : List (Nat × RE) := [(12, law02_num_re)]
theorem law02_does_Rok (K : Nat) : REnv.Ok prog (tab (law02_does_R K)) := (REnv.cons (law02_num_ok) (REnv.nil _))
noncomputable def law02_does_s0 (K : Nat) (k7 : Option Addr) (e8 : Int) (w : World) : Option ((Bool × Unit) × World) :=
  if k7.isNone = true then (some ((true, ()), w)) else ((law02_num e8).bind fun r_7 =>
  some (((r_7.1 != 0), ()), w))
/-- coffer/cofferlaw02.does -/
noncomputable def law02_does (K : Nat) (key0 : Sl) (in1 : Array Value) (want2 : Array Value) (w : World) : Option ((Bool × Unit) × World) :=
  bnd (newB in1 42 w) fun p_1 w_2 =>
  bnd (newB want2 42 w_2) fun p_3 w_4 =>
  bnd (rijndael_New K key0 w_4) fun r_5 w_6 =>
  bnd (law02_does_s0 K r_5.1 r_5.2.1 w_6) fun y_8 w_9 =>
  if y_8.1 = true then (some ((false, ()), w_9)) else ((ldA 16 p_1 w_9).bind fun v_10 =>
  bnd (rijndael_Key_Encrypt K r_5.1 v_10 w_9) fun r_11 w_12 =>
  bnd (newB z42 42 w_12) fun out_13 w_14 =>
  if (r_11.1).size = 16 then ((stA out_13 r_11.1 w_14).bind fun w_15 =>
  (ldA 16 out_13 w_15).bind fun v_16 =>
  bnd (rijndael_Key_Decrypt K r_5.1 v_16 w_15) fun r_17 w_18 =>
  bnd (newB z42 42 w_18) fun back_19 w_20 =>
  if (r_17.1).size = 16 then ((stA back_19 r_17.1 w_20).bind fun w_21 =>
  (law02_num r_11.2.1).bind fun r_22 =>
  if (r_22.1 == 0) = true then ((law02_num r_17.2.1).bind fun r_23 =>
  if (r_23.1 == 0) = true then ((ldA 16 out_13 w_21).bind fun v_24 =>
  (ldA 16 p_3 w_21).bind fun v_25 =>
  (eqA prog 42 v_24 v_25).bind fun b_26 =>
  if b_26 = true then ((ldA 16 back_19 w_21).bind fun v_27 =>
  (ldA 16 p_1 w_21).bind fun v_28 =>
  (eqA prog 42 v_27 v_28).bind fun b_29 =>
  some ((b_29, ()), w_21)) else (some ((false, ()), w_21))) else (some ((false, ()), w_21))) else (some ((false, ()), w_21))) else none) else none)
theorem law02_does_s0_ok (K : Nat) : StmtNOk prog [(7, .ptr), (8, .int .i64)] [(24, .bool)] [(18, 25)] (fun x w => law02_does_s0 K x.1 x.2.1 w) (cd (bodyOf f28) [1, 1, 0, 0]) :=
    mk_stmtN (O := tabL []) (root := (bodyOf f28)) (π := [1, 1, 0, 0]) (Li := [(7, .ptr), (8, .int .i64)]) (Lo := [(24, .bool)]) (S := (fun x w => law02_does_s0 K x.1 x.2.1 w)) (law02_does_Eok K) (law02_does_Rok K) rfl (Orc.nil _ _ _) (by kernel_rfl) (fun _ _ => by kernel_rfl)
noncomputable def law02_does_s0_se (K : Nat) : SE := stmtN [(7, .ptr), (8, .int .i64)] [(24, .bool)] [(18, 25)] (fun x w => law02_does_s0 K x.1 x.2.1 w)
theorem law02_does_s0_se_ok (K : Nat) (R : Rg) (h : subRB [(18, 25)] R = true) : (law02_does_s0_se K).Ok prog R (cd (bodyOf f28) [1, 1, 0, 0]) := stmtN_ok (Li := [(7, .ptr), (8, .int .i64)]) (Lo := [(24, .bool)]) (S := (fun x w => law02_does_s0 K x.1 x.2.1 w)) (law02_does_s0_ok K) (subR_of h)
theorem law02_does_facts : FunFacts prog 28 f28 (bodyOf f28) [(0, .sl), (1, .agg), (2, .agg)] [(0, 55)] := ⟨func28, by kernel_rfl, by kernel_rfl, by kernel_rfl, by kernel_rfl, by kernel_rfl⟩
theorem law02_does_calls (K : Nat) (x : TT [(0, .sl), (1, .agg), (2, .agg)]) (w : World) (y : TR [.bool]) (w2 : World) (h : law02_does K x.1 x.2.1 x.2.2.1 w = some (y, w2)) : Calls prog 28 (encA [(0, .sl), (1, .agg), (2, .agg)] x).toArray w (fun e w3 => e = .returned (resV (encR [.bool] y)) ∧ w3 = w2) :=
    mk_fun (O := tabL [([1, 1, 0, 0], law02_does_s0_se K)]) (Lp := [(0, .sl), (1, .agg), (2, .agg)]) (Rt := [.bool]) (S := (fun x w => law02_does K x.1 x.2.1 x.2.2.1 w)) (law02_does_Eok K) (law02_does_Rok K) rfl law02_does_facts (Orc.cons (by kernel_rfl) (law02_does_s0_se_ok K [(0, 55)] (by kernel_rfl)) (Orc.nil _ _ _)) (fun _ _ => by kernel_rfl) x w y w2 h
noncomputable def law02_does_ce (K : Nat) : CE := funE [(0, .sl), (1, .agg), (2, .agg)] [.bool] (fun x w => law02_does K x.1 x.2.1 x.2.2.1 w)
theorem law02_does_ok (K : Nat) : (law02_does_ce K).Ok prog 28 := funE_ok (Rt := [.bool]) (S := (fun x w => law02_does K x.1 x.2.1 x.2.2.1 w)) law02_does_facts fun x w y w2 h => law02_does_calls K x w y w2 h

noncomputable def rijndael_Key_Stream_E : List (Nat × CE) := [(44, rijndael_Key_schedule_ce)]
theorem rijndael_Key_Stream_Eok : Env.Ok prog (tab (rijndael_Key_Stream_E)) := (Env.cons (rijndael_Key_schedule_ok) (Env.nil _))
noncomputable def rijndael_Key_Stream_R : List (Nat × RE) := []
theorem rijndael_Key_Stream_Rok : REnv.Ok prog (tab (rijndael_Key_Stream_R)) := (REnv.nil _)
/-- (*coffer/rijndael.Key).Stream -/
noncomputable def rijndael_Key_Stream (k0 : Option Addr) (start1 : Array Value) (w : World) : Option (((Option Addr) × Int × Unit) × World) :=
  bnd (newB start1 42 w) fun p_1 w_2 =>
  bnd (rijndael_Key_schedule k0 false w_2) fun r_3 w_4 =>
  if (r_3.2.1 != 0) = true then (some ((none, r_3.2.1, ()), w_4)) else ((ldA 16 p_1 w_4).bind fun v_5 =>
  (prog.built 107 [(0, (.pointer k0)), (1, (.agg v_5))]).bind fun cs_6 =>
  bnd (newB cs_6 107 w_4) fun p_7 w_8 =>
  some (((some p_7), 0, ()), w_8))
theorem rijndael_Key_Stream_facts : FunFacts prog 29 f29 (bodyOf f29) [(0, .ptr), (1, .agg)] [(0, 20)] := ⟨func29, by kernel_rfl, by kernel_rfl, by kernel_rfl, by kernel_rfl, by kernel_rfl⟩
theorem rijndael_Key_Stream_calls (x : TT [(0, .ptr), (1, .agg)]) (w : World) (y : TR [.ptr, .int .i64]) (w2 : World) (h : rijndael_Key_Stream x.1 x.2.1 w = some (y, w2)) : Calls prog 29 (encA [(0, .ptr), (1, .agg)] x).toArray w (fun e w3 => e = .returned (resV (encR [.ptr, .int .i64] y)) ∧ w3 = w2) :=
    mk_fun (O := tabL []) (Lp := [(0, .ptr), (1, .agg)]) (Rt := [.ptr, .int .i64]) (S := (fun x w => rijndael_Key_Stream x.1 x.2.1 w)) (rijndael_Key_Stream_Eok) (rijndael_Key_Stream_Rok) rfl rijndael_Key_Stream_facts (Orc.nil _ _ _) (fun _ _ => by kernel_rfl) x w y w2 h
noncomputable def rijndael_Key_Stream_ce : CE := funE [(0, .ptr), (1, .agg)] [.ptr, .int .i64] (fun x w => rijndael_Key_Stream x.1 x.2.1 w)
theorem rijndael_Key_Stream_ok : (rijndael_Key_Stream_ce).Ok prog 29 := funE_ok (Rt := [.ptr, .int .i64]) (S := (fun x w => rijndael_Key_Stream x.1 x.2.1 w)) rijndael_Key_Stream_facts fun x w y w2 h => rijndael_Key_Stream_calls x w y w2 h

end Go.Sh

/- What functions of the program do, as Lean functions; that the machine does just that. Printed by shal.py, a program of this claim's writer. -/
set_option maxRecDepth 100000
set_option linter.unusedVariables false
namespace Go.Sh
open Go.Fw Go.Proofs.Tryd

noncomputable def rijndael_Stream_further_E : List (Nat × CE) := [(44, rijndael_Key_schedule_ce)]
theorem rijndael_Stream_further_Eok : Env.Ok prog (tab (rijndael_Stream_further_E)) := (Env.cons (rijndael_Key_schedule_ok) (Env.nil _))
noncomputable def rijndael_Stream_further_R : List (Nat × RE) := []
theorem rijndael_Stream_further_Rok : REnv.Ok prog (tab (rijndael_Stream_further_R)) := (REnv.nil _)
noncomputable def rijndael_Stream_further_s0 (s0 : Option Addr) (n1 : Int) (e7 : Int) (w : World) : Option ((Bool × Unit) × World) :=
  if (e7 == 0) = true then ((s0).bind fun p_5 =>
  (ldI .u64 (p_5.add 17) w).bind fun v_6 =>
  some (((decide (n1 > (IntKind.u64.wrap (1099511627776 - v_6)))), ()), w)) else (some ((false, ()), w))
/-- (*coffer/rijndael.Stream).further -/
noncomputable def rijndael_Stream_further (s0 : Option Addr) (n1 : Int) (w : World) : Option ((Sl × Int × Unit) × World) :=
  if s0.isNone = true then (some ((⟨none, 0, 0⟩, 1, ()), w)) else ((s0).bind fun p_1 =>
  (ldP (p_1.add 0) w).bind fun v_2 =>
  bnd (rijndael_Key_schedule v_2 false w) fun r_3 w_4 =>
  bnd (rijndael_Stream_further_s0 s0 n1 r_3.2.1 w_4) fun y_7 w_8 =>
  if y_7.1 = true then (some ((⟨none, 0, 0⟩, 4, ()), w_8)) else (some ((r_3.1, r_3.2.1, ()), w_8)))
theorem rijndael_Stream_further_s0_ok : StmtNOk prog [(0, .ptr), (1, .int .u64), (7, .int .i64)] [(28, .bool)] [(18, 29)] (fun x w => rijndael_Stream_further_s0 x.1 x.2.1 x.2.2.1 w) (cd (bodyOf f49) [1, 1, 1, 0, 0]) :=
    mk_stmtN (O := tabL []) (root := (bodyOf f49)) (π := [1, 1, 1, 0, 0]) (Li := [(0, .ptr), (1, .int .u64), (7, .int .i64)]) (Lo := [(28, .bool)]) (S := (fun x w => rijndael_Stream_further_s0 x.1 x.2.1 x.2.2.1 w)) (rijndael_Stream_further_Eok) (rijndael_Stream_further_Rok) rfl (Orc.nil _ _ _) (by kernel_rfl) (fun _ _ => by kernel_rfl)
noncomputable def rijndael_Stream_further_s0_se : SE := stmtN [(0, .ptr), (1, .int .u64), (7, .int .i64)] [(28, .bool)] [(18, 29)] (fun x w => rijndael_Stream_further_s0 x.1 x.2.1 x.2.2.1 w)
theorem rijndael_Stream_further_s0_se_ok (R : Rg) (h : subRB [(18, 29)] R = true) : (rijndael_Stream_further_s0_se).Ok prog R (cd (bodyOf f49) [1, 1, 1, 0, 0]) := stmtN_ok (Li := [(0, .ptr), (1, .int .u64), (7, .int .i64)]) (Lo := [(28, .bool)]) (S := (fun x w => rijndael_Stream_further_s0 x.1 x.2.1 x.2.2.1 w)) (rijndael_Stream_further_s0_ok) (subR_of h)
theorem rijndael_Stream_further_facts : FunFacts prog 49 f49 (bodyOf f49) [(0, .ptr), (1, .int .u64)] [(0, 31)] := ⟨func49, by kernel_rfl, by kernel_rfl, by kernel_rfl, by kernel_rfl, by kernel_rfl⟩
theorem rijndael_Stream_further_calls (x : TT [(0, .ptr), (1, .int .u64)]) (w : World) (y : TR [.sl, .int .i64]) (w2 : World) (h : rijndael_Stream_further x.1 x.2.1 w = some (y, w2)) : Calls prog 49 (encA [(0, .ptr), (1, .int .u64)] x).toArray w (fun e w3 => e = .returned (resV (encR [.sl, .int .i64] y)) ∧ w3 = w2) :=
    mk_fun (O := tabL [([1, 1, 1, 0, 0], rijndael_Stream_further_s0_se)]) (Lp := [(0, .ptr), (1, .int .u64)]) (Rt := [.sl, .int .i64]) (S := (fun x w => rijndael_Stream_further x.1 x.2.1 w)) (rijndael_Stream_further_Eok) (rijndael_Stream_further_Rok) rfl rijndael_Stream_further_facts (Orc.cons (by kernel_rfl) (rijndael_Stream_further_s0_se_ok [(0, 31)] (by kernel_rfl)) (Orc.nil _ _ _)) (fun _ _ => by kernel_rfl) x w y w2 h
noncomputable def rijndael_Stream_further_ce : CE := funE [(0, .ptr), (1, .int .u64)] [.sl, .int .i64] (fun x w => rijndael_Stream_further x.1 x.2.1 w)
theorem rijndael_Stream_further_ok : (rijndael_Stream_further_ce).Ok prog 49 := funE_ok (Rt := [.sl, .int .i64]) (S := (fun x w => rijndael_Stream_further x.1 x.2.1 w)) rijndael_Stream_further_facts fun x w y w2 h => rijndael_Stream_further_calls x w y w2 h

noncomputable def rijndael_plus_E (K : Nat) : List (Nat × CE) := [(51, rijndael_lay_ce K)]
theorem rijndael_plus_Eok (K : Nat) : Env.Ok prog (tab (rijndael_plus_E K)) := (Env.cons (rijndael_lay_ok K) (Env.nil _))
noncomputable def rijndael_plus_R (K : Nat) : List (Nat × RE) := [(39, rijndael_number_re K)]
theorem rijndael_plus_Rok (K : Nat) : REnv.Ok prog (tab (rijndael_plus_R K)) := (REnv.cons (rijndael_number_ok K) (REnv.nil _))
noncomputable def rijndael_plus_s0 (K : Nat) (high6 : Int) (a15 : Bool) (w : World) : Option ((Int × Unit) × World) :=
  if a15 = true then (some (((IntKind.u64.wrap (high6 + 1)), ()), w)) else (some ((high6, ()), w))
/-- coffer/rijndael.plus -/
noncomputable def rijndael_plus (K : Nat) (b0 : Array Value) (n1 : Int) (w : World) : Option (((Array Value) × Unit) × World) :=
  bnd (newB b0 42 w) fun p_1 w_2 =>
  bnd (newB z42 42 w_2) fun p_3 w_4 =>
  (rijndael_number K ⟨(sla (some p_1) 8 16 1), (16 - 8), (16 - 8)⟩ 8 w_4).bind fun r_5 =>
  (rijndael_number K ⟨(sla (some p_1) 0 16 1), (8 - 0), (16 - 0)⟩ 8 w_4).bind fun r_6 =>
  bnd (rijndael_plus_s0 K r_6.1 (decide ((IntKind.u64.wrap (r_5.1 + n1)) < r_5.1)) w_4) fun y_7 w_8 =>
  bnd (rijndael_lay K ⟨(sla (some p_1) 8 16 1), (16 - 8), (16 - 8)⟩ 8 (IntKind.u64.wrap (r_5.1 + n1)) w_8) fun r_9 w_10 =>
  bnd (rijndael_lay K ⟨(sla (some p_1) 0 16 1), (8 - 0), (16 - 0)⟩ 8 y_7.1 w_10) fun r_11 w_12 =>
  (ldA 16 p_1 w_12).bind fun v_13 =>
  if (v_13).size = 16 then ((stA p_3 v_13 w_12).bind fun w_14 =>
  (ldA 16 p_3 w_14).bind fun res_15 =>
  some ((res_15, ()), w_14)) else none
theorem rijndael_plus_s0_ok (K : Nat) : StmtNOk prog [(6, .int .u64), (15, .bool)] [(6, .int .u64)] [(6, 7), (16, 18)] (fun x w => rijndael_plus_s0 K x.1 x.2.1 w) (cd (bodyOf f50) [1, 1, 1, 0, 1]) :=
    mk_stmtN (O := tabL []) (root := (bodyOf f50)) (π := [1, 1, 1, 0, 1]) (Li := [(6, .int .u64), (15, .bool)]) (Lo := [(6, .int .u64)]) (S := (fun x w => rijndael_plus_s0 K x.1 x.2.1 w)) (rijndael_plus_Eok K) (rijndael_plus_Rok K) rfl (Orc.nil _ _ _) (by kernel_rfl) (fun _ _ => by kernel_rfl)
noncomputable def rijndael_plus_s0_se (K : Nat) : SE := stmtN [(6, .int .u64), (15, .bool)] [(6, .int .u64)] [(6, 7), (16, 18)] (fun x w => rijndael_plus_s0 K x.1 x.2.1 w)
theorem rijndael_plus_s0_se_ok (K : Nat) (R : Rg) (h : subRB [(6, 7), (16, 18)] R = true) : (rijndael_plus_s0_se K).Ok prog R (cd (bodyOf f50) [1, 1, 1, 0, 1]) := stmtN_ok (Li := [(6, .int .u64), (15, .bool)]) (Lo := [(6, .int .u64)]) (S := (fun x w => rijndael_plus_s0 K x.1 x.2.1 w)) (rijndael_plus_s0_ok K) (subR_of h)
theorem rijndael_plus_facts : FunFacts prog 50 f50 (bodyOf f50) [(0, .agg), (1, .int .u64)] [(0, 27)] := ⟨func50, by kernel_rfl, by kernel_rfl, by kernel_rfl, by kernel_rfl, by kernel_rfl⟩
theorem rijndael_plus_calls (K : Nat) (x : TT [(0, .agg), (1, .int .u64)]) (w : World) (y : TR [.agg]) (w2 : World) (h : rijndael_plus K x.1 x.2.1 w = some (y, w2)) : Calls prog 50 (encA [(0, .agg), (1, .int .u64)] x).toArray w (fun e w3 => e = .returned (resV (encR [.agg] y)) ∧ w3 = w2) :=
    mk_fun (O := tabL [([1, 1, 1, 0, 1], rijndael_plus_s0_se K)]) (Lp := [(0, .agg), (1, .int .u64)]) (Rt := [.agg]) (S := (fun x w => rijndael_plus K x.1 x.2.1 w)) (rijndael_plus_Eok K) (rijndael_plus_Rok K) rfl rijndael_plus_facts (Orc.cons (by kernel_rfl) (rijndael_plus_s0_se_ok K [(0, 27)] (by kernel_rfl)) (Orc.nil _ _ _)) (fun _ _ => by kernel_rfl) x w y w2 h
noncomputable def rijndael_plus_ce (K : Nat) : CE := funE [(0, .agg), (1, .int .u64)] [.agg] (fun x w => rijndael_plus K x.1 x.2.1 w)
theorem rijndael_plus_ok (K : Nat) : (rijndael_plus_ce K).Ok prog 50 := funE_ok (Rt := [.agg]) (S := (fun x w => rijndael_plus K x.1 x.2.1 w)) rijndael_plus_facts fun x w y w2 h => rijndael_plus_calls K x w y w2 h

noncomputable def rijndael_Stream_XOR_E (K : Nat) : List (Nat × CE) := [(49, rijndael_Stream_further_ce), (50, rijndael_plus_ce K), (45, rijndael_tables_encrypt_ce K)]
theorem rijndael_Stream_XOR_Eok (K : Nat) : Env.Ok prog (tab (rijndael_Stream_XOR_E K)) := (Env.cons (rijndael_Stream_further_ok) (Env.cons (rijndael_plus_ok K) (Env.cons (rijndael_tables_encrypt_ok K) (Env.nil _))))
noncomputable def rijndael_Stream_XOR_R (K : Nat) : List (Nat × RE) := []
theorem rijndael_Stream_XOR_Rok (K : Nat) : REnv.Ok prog (tab (rijndael_Stream_XOR_R K)) := (REnv.nil _)
noncomputable def rijndael_Stream_XOR_s0 (K : Nat) (data1 : Sl) (e7 : Int) (w : World) : Option ((Bool × Unit) × World) :=
  if (e7 == 0) = true then (some (((decide (((data1.len : Nat) : Int) > 1048576)), ()), w)) else (some ((false, ()), w))
noncomputable def rijndael_Stream_XOR_s1 (K : Nat) (e7 : Int) (a26 : Bool) (w : World) : Option ((Int × Unit) × World) :=
  if a26 = true then (some ((4, ()), w)) else (some ((e7, ()), w))
noncomputable def rijndael_Stream_XOR_s3 (K : Nat) (s0 : Option Addr) (i10 : Int) (w : World) : Option ((Bool × Unit) × World) :=
  if (i10 == 0) = true then (some ((true, ()), w)) else ((s0).bind fun p_13 =>
  (ldI .u64 (p_13.add 17) w).bind fun v_14 =>
  some ((((Int.tmod v_14 16) == 0), ()), w))
noncomputable def rijndael_Stream_XOR_s5 (K : Nat) (s0 : Option Addr) (w6 : Sl) (pad9 : Addr) (w : World) : Option ((Unit) × World) :=
  (s0).bind fun p_17 =>
  (s0).bind fun p_18 =>
  (s0).bind fun p_19 =>
  (ldP (p_17.add 0) w.drew).bind fun v_20 =>
  (v_20).bind fun p_21 =>
  (ldP (p_21.add 7) w.drew).bind fun v_22 =>
  (ldA 16 (p_18.add 1) w.drew).bind fun v_23 =>
  (ldI .u64 (p_19.add 17) w.drew).bind fun v_24 =>
  bnd (rijndael_plus K v_23 (IntKind.u64.wrap (Int.tdiv v_24 16)) w.drew) fun r_25 w_26 =>
  (ldI .u64 (p_19.add 17) w_26).bind fun v_27 =>
  sameK (.int .u64 v_24) (.int .u64 v_27) ((ldA 16 (p_18.add 1) w_26).bind fun v_28 =>
  sameK (.agg v_23) (.agg v_28) ((ldP (p_21.add 7) w_26).bind fun v_29 =>
  sameK (.pointer v_22) (.pointer v_29) ((ldP (p_17.add 0) w_26).bind fun v_30 =>
  sameK (.pointer v_20) (.pointer v_30) (bnd (rijndael_tables_encrypt K v_22 w6 r_25.1 w_26) fun r_31 w_32 =>
  (ldI .u64 (p_19.add 17) w_32).bind fun v_33 =>
  sameK (.int .u64 v_24) (.int .u64 v_33) ((ldA 16 (p_18.add 1) w_32).bind fun v_34 =>
  sameK (.agg v_23) (.agg v_34) ((ldP (p_21.add 7) w_32).bind fun v_35 =>
  sameK (.pointer v_22) (.pointer v_35) ((ldP (p_17.add 0) w_32).bind fun v_36 =>
  sameK (.pointer v_20) (.pointer v_36) (if (r_31.1).size = 16 then ((stA pad9 r_31.1 w_32).bind fun w_37 =>
  (ldI .u64 (p_19.add 17) w_37).bind fun v_38 =>
  sameK (.int .u64 v_24) (.int .u64 v_38) ((ldA 16 (p_18.add 1) w_37).bind fun v_39 =>
  sameK (.agg v_23) (.agg v_39) ((ldP (p_21.add 7) w_37).bind fun v_40 =>
  sameK (.pointer v_22) (.pointer v_40) ((ldP (p_17.add 0) w_37).bind fun v_41 =>
  sameK (.pointer v_20) (.pointer v_41) (some ((), w_37)))))) else none))))))))
noncomputable def rijndael_Stream_XOR_s4 (K : Nat) (s0 : Option Addr) (w6 : Sl) (pad9 : Addr) (a49 : Bool) (w : World) : Option ((Unit) × World) :=
  if a49 = true then (bnd (rijndael_Stream_XOR_s5 K s0 w6 pad9 w) fun y_42 w_43 =>
  some ((), w_43)) else (some ((), w))
noncomputable def rijndael_Stream_XOR_l2_b (K : Nat) (rec : Option Addr → Sl → Sl → Addr → Sl → Int → Int → World → Option ((Unit) × World)) (s0 : Option Addr) (w6 : Sl) (out8 : Sl) (pad9 : Addr) (a33 : Sl) (a34 : Int) (a35 : Int) (w : World) : Option ((Unit) × World) :=
  if (decide (a35 < a34)) = true then ((a33.a).bind fun p_11 =>
  if (0 : Int) ≤ a35 ∧ a35 < ((a33.len : Nat) : Int) then ((ldI .u8 (p_11.add ((Int.toNat a35) * 1)) w).bind fun v_12 =>
  bnd (rijndael_Stream_XOR_s3 K s0 a35 w) fun y_15 w_16 =>
  bnd (rijndael_Stream_XOR_s4 K s0 w6 pad9 y_15.1 w_16) fun y_44 w_45 =>
  (s0).bind fun p_46 =>
  (ldI .u64 (p_46.add 17) w_45).bind fun v_47 =>
  if (0 : Int) ≤ (Int.tmod v_47 16) ∧ (Int.tmod v_47 16) < ((16 : Nat) : Int) then ((ldI .u8 (pad9.add ((Int.toNat (Int.tmod v_47 16)) * 1)) w_45).bind fun v_48 =>
  (out8.a).bind fun p_49 =>
  if (0 : Int) ≤ a35 ∧ a35 < ((out8.len : Nat) : Int) then ((stC (p_49.add ((Int.toNat a35) * 1)) (.int .u8 (bits .xor .u8 v_12 v_48)) w_45).bind fun w_50 =>
  (s0).bind fun p_51 =>
  (ldI .u64 (p_51.add 17) w_50).bind fun v_52 =>
  (s0).bind fun p_53 =>
  (stC (p_53.add 17) (.int .u64 (IntKind.u64.wrap (v_52 + 1))) w_50).bind fun w_54 =>
  rec s0 w6 out8 pad9 a33 a34 (IntKind.i64.wrap (a35 + 1)) w_54) else none) else none) else none) else (some ((), w))
noncomputable def rijndael_Stream_XOR_l2 (K : Nat) (n : Nat) : Option Addr → Sl → Sl → Addr → Sl → Int → Int → World → Option ((Unit) × World) := iter (fun _ _ _ _ _ _ _ _ => none) (rijndael_Stream_XOR_l2_b K) n
/-- (*coffer/rijndael.Stream).XOR -/
noncomputable def rijndael_Stream_XOR (K : Nat) (s0 : Option Addr) (data1 : Sl) (w : World) : Option ((Sl × Int × Unit) × World) :=
  bnd (rijndael_Stream_further s0 (IntKind.u64.wrap ((data1.len : Nat) : Int)) w) fun r_1 w_2 =>
  bnd (rijndael_Stream_XOR_s0 K data1 r_1.2.1 w_2) fun y_3 w_4 =>
  bnd (rijndael_Stream_XOR_s1 K r_1.2.1 y_3.1 w_4) fun y_5 w_6 =>
  if (y_5.1 != 0) = true then (some ((⟨none, 0, 0⟩, y_5.1, ()), w_6)) else (bnd (mkS prog 22 (.int .i64 ((data1.len : Nat) : Int)) (.int .i64 ((data1.len : Nat) : Int)) w_6) fun s_7 w_8 =>
  bnd (newB z42 42 w_8) fun pad_9 w_10 =>
  bnd (rijndael_Stream_XOR_l2 K K s0 r_1.1 s_7 pad_9 data1 ((data1.len : Nat) : Int) 0 w_10) fun y_55 w_56 =>
  some ((s_7, 0, ()), w_56))
theorem rijndael_Stream_XOR_s0_ok (K : Nat) : StmtNOk prog [(1, .sl), (7, .int .i64)] [(26, .bool)] [(20, 27)] (fun x w => rijndael_Stream_XOR_s0 K x.1 x.2.1 w) (cd (bodyOf f30) [1, 1, 0, 0]) :=
    mk_stmtN (O := tabL []) (root := (bodyOf f30)) (π := [1, 1, 0, 0]) (Li := [(1, .sl), (7, .int .i64)]) (Lo := [(26, .bool)]) (S := (fun x w => rijndael_Stream_XOR_s0 K x.1 x.2.1 w)) (rijndael_Stream_XOR_Eok K) (rijndael_Stream_XOR_Rok K) rfl (Orc.nil _ _ _) (by kernel_rfl) (fun _ _ => by kernel_rfl)
noncomputable def rijndael_Stream_XOR_s0_se (K : Nat) : SE := stmtN [(1, .sl), (7, .int .i64)] [(26, .bool)] [(20, 27)] (fun x w => rijndael_Stream_XOR_s0 K x.1 x.2.1 w)
theorem rijndael_Stream_XOR_s0_se_ok (K : Nat) (R : Rg) (h : subRB [(20, 27)] R = true) : (rijndael_Stream_XOR_s0_se K).Ok prog R (cd (bodyOf f30) [1, 1, 0, 0]) := stmtN_ok (Li := [(1, .sl), (7, .int .i64)]) (Lo := [(26, .bool)]) (S := (fun x w => rijndael_Stream_XOR_s0 K x.1 x.2.1 w)) (rijndael_Stream_XOR_s0_ok K) (subR_of h)
theorem rijndael_Stream_XOR_s1_ok (K : Nat) : StmtNOk prog [(7, .int .i64), (26, .bool)] [(7, .int .i64)] [(7, 8)] (fun x w => rijndael_Stream_XOR_s1 K x.1 x.2.1 w) (cd (bodyOf f30) [1, 1, 0, 1]) :=
    mk_stmtN (O := tabL []) (root := (bodyOf f30)) (π := [1, 1, 0, 1]) (Li := [(7, .int .i64), (26, .bool)]) (Lo := [(7, .int .i64)]) (S := (fun x w => rijndael_Stream_XOR_s1 K x.1 x.2.1 w)) (rijndael_Stream_XOR_Eok K) (rijndael_Stream_XOR_Rok K) rfl (Orc.nil _ _ _) (by kernel_rfl) (fun _ _ => by kernel_rfl)
noncomputable def rijndael_Stream_XOR_s1_se (K : Nat) : SE := stmtN [(7, .int .i64), (26, .bool)] [(7, .int .i64)] [(7, 8)] (fun x w => rijndael_Stream_XOR_s1 K x.1 x.2.1 w)
theorem rijndael_Stream_XOR_s1_se_ok (K : Nat) (R : Rg) (h : subRB [(7, 8)] R = true) : (rijndael_Stream_XOR_s1_se K).Ok prog R (cd (bodyOf f30) [1, 1, 0, 1]) := stmtN_ok (Li := [(7, .int .i64), (26, .bool)]) (Lo := [(7, .int .i64)]) (S := (fun x w => rijndael_Stream_XOR_s1 K x.1 x.2.1 w)) (rijndael_Stream_XOR_s1_ok K) (subR_of h)
theorem rijndael_Stream_XOR_s3_ok (K : Nat) : StmtNOk prog [(0, .ptr), (10, .int .i64)] [(49, .bool)] [(40, 50)] (fun x w => rijndael_Stream_XOR_s3 K x.1 x.2.1 w) (cd (bodyOf f30) [1, 1, 1, 1, 1, 1, 0, 1, 0, 0, 1, 1, 0, 0, 1, 0, 0]) :=
    mk_stmtN (O := tabL []) (root := (bodyOf f30)) (π := [1, 1, 1, 1, 1, 1, 0, 1, 0, 0, 1, 1, 0, 0, 1, 0, 0]) (Li := [(0, .ptr), (10, .int .i64)]) (Lo := [(49, .bool)]) (S := (fun x w => rijndael_Stream_XOR_s3 K x.1 x.2.1 w)) (rijndael_Stream_XOR_Eok K) (rijndael_Stream_XOR_Rok K) rfl (Orc.nil _ _ _) (by kernel_rfl) (fun _ _ => by kernel_rfl)
noncomputable def rijndael_Stream_XOR_s3_se (K : Nat) : SE := stmtN [(0, .ptr), (10, .int .i64)] [(49, .bool)] [(40, 50)] (fun x w => rijndael_Stream_XOR_s3 K x.1 x.2.1 w)
theorem rijndael_Stream_XOR_s3_se_ok (K : Nat) (R : Rg) (h : subRB [(40, 50)] R = true) : (rijndael_Stream_XOR_s3_se K).Ok prog R (cd (bodyOf f30) [1, 1, 1, 1, 1, 1, 0, 1, 0, 0, 1, 1, 0, 0, 1, 0, 0]) := stmtN_ok (Li := [(0, .ptr), (10, .int .i64)]) (Lo := [(49, .bool)]) (S := (fun x w => rijndael_Stream_XOR_s3 K x.1 x.2.1 w)) (rijndael_Stream_XOR_s3_ok K) (subR_of h)
theorem rijndael_Stream_XOR_s5_ok (K : Nat) : StmtNOk prog [(0, .ptr), (6, .sl), (9, .addr)] [] [(50, 69)] (fun x w => rijndael_Stream_XOR_s5 K x.1 x.2.1 x.2.2.1 w) (cd (bodyOf f30) [1, 1, 1, 1, 1, 1, 0, 1, 0, 0, 1, 1, 0, 0, 1, 0, 1, 0]) :=
    mk_regionH (R := [(50, 69)]) (Li := [(0, .ptr), (6, .sl), (9, .addr)]) (Lo := []) (S := (fun x w => rijndael_Stream_XOR_s5 K x.1 x.2.1 x.2.2.1 w)) (rijndael_Stream_XOR_Eok K) (rijndael_Stream_XOR_Rok K) rfl (fun _ _ => by kernel_rfl)
noncomputable def rijndael_Stream_XOR_s5_se (K : Nat) : SE := stmtN [(0, .ptr), (6, .sl), (9, .addr)] [] [(50, 69)] (fun x w => rijndael_Stream_XOR_s5 K x.1 x.2.1 x.2.2.1 w)
theorem rijndael_Stream_XOR_s5_se_ok (K : Nat) (R : Rg) (h : subRB [(50, 69)] R = true) : (rijndael_Stream_XOR_s5_se K).Ok prog R (cd (bodyOf f30) [1, 1, 1, 1, 1, 1, 0, 1, 0, 0, 1, 1, 0, 0, 1, 0, 1, 0]) := stmtN_ok (Li := [(0, .ptr), (6, .sl), (9, .addr)]) (Lo := []) (S := (fun x w => rijndael_Stream_XOR_s5 K x.1 x.2.1 x.2.2.1 w)) (rijndael_Stream_XOR_s5_ok K) (subR_of h)
theorem rijndael_Stream_XOR_s4_ok (K : Nat) : StmtNOk prog [(0, .ptr), (6, .sl), (9, .addr), (49, .bool)] [] [(50, 69)] (fun x w => rijndael_Stream_XOR_s4 K x.1 x.2.1 x.2.2.1 x.2.2.2.1 w) (cd (bodyOf f30) [1, 1, 1, 1, 1, 1, 0, 1, 0, 0, 1, 1, 0, 0, 1, 0, 1]) :=
    mk_stmtN (O := tabL [([1, 1, 1, 1, 1, 1, 0, 1, 0, 0, 1, 1, 0, 0, 1, 0, 1, 0], rijndael_Stream_XOR_s5_se K)]) (root := (bodyOf f30)) (π := [1, 1, 1, 1, 1, 1, 0, 1, 0, 0, 1, 1, 0, 0, 1, 0, 1]) (Li := [(0, .ptr), (6, .sl), (9, .addr), (49, .bool)]) (Lo := []) (S := (fun x w => rijndael_Stream_XOR_s4 K x.1 x.2.1 x.2.2.1 x.2.2.2.1 w)) (rijndael_Stream_XOR_Eok K) (rijndael_Stream_XOR_Rok K) rfl (Orc.cons (by kernel_rfl) (rijndael_Stream_XOR_s5_se_ok K [(50, 69)] (by kernel_rfl)) (Orc.nil _ _ _)) (by kernel_rfl) (fun _ _ => by kernel_rfl)
noncomputable def rijndael_Stream_XOR_s4_se (K : Nat) : SE := stmtN [(0, .ptr), (6, .sl), (9, .addr), (49, .bool)] [] [(50, 69)] (fun x w => rijndael_Stream_XOR_s4 K x.1 x.2.1 x.2.2.1 x.2.2.2.1 w)
theorem rijndael_Stream_XOR_s4_se_ok (K : Nat) (R : Rg) (h : subRB [(50, 69)] R = true) : (rijndael_Stream_XOR_s4_se K).Ok prog R (cd (bodyOf f30) [1, 1, 1, 1, 1, 1, 0, 1, 0, 0, 1, 1, 0, 0, 1, 0, 1]) := stmtN_ok (Li := [(0, .ptr), (6, .sl), (9, .addr), (49, .bool)]) (Lo := []) (S := (fun x w => rijndael_Stream_XOR_s4 K x.1 x.2.1 x.2.2.1 x.2.2.2.1 w)) (rijndael_Stream_XOR_s4_ok K) (subR_of h)
theorem rijndael_Stream_XOR_l2_ok (K : Nat) (n : Nat) : StmtNOk prog [(0, .ptr), (6, .sl), (8, .sl), (9, .addr), (33, .sl), (34, .int .i64), (35, .int .i64)] [] [(10, 12), (35, 89)] ((fun n x w => rijndael_Stream_XOR_l2 K n x.1 x.2.1 x.2.2.1 x.2.2.2.1 x.2.2.2.2.1 x.2.2.2.2.2.1 x.2.2.2.2.2.2.1 w) n) (.block 0 (.loop (cd (bodyOf f30) [1, 1, 1, 1, 1, 1, 0, 1, 0, 0]))) :=
    mk_loopN (O := tabL [([1, 1, 1, 1, 1, 1, 0, 1, 0, 0, 1, 1, 0, 0, 1, 0, 0], rijndael_Stream_XOR_s3_se K), ([1, 1, 1, 1, 1, 1, 0, 1, 0, 0, 1, 1, 0, 0, 1, 0, 1], rijndael_Stream_XOR_s4_se K), ([1, 1, 1, 1, 1, 1, 0, 1, 0, 0, 1, 1, 0, 0, 1, 0, 1, 0], rijndael_Stream_XOR_s5_se K)]) (root := (bodyOf f30)) (π := [1, 1, 1, 1, 1, 1, 0, 1, 0, 0]) (id := 0) (Li := [(0, .ptr), (6, .sl), (8, .sl), (9, .addr), (33, .sl), (34, .int .i64), (35, .int .i64)]) (Lo := []) (S := (fun n x w => rijndael_Stream_XOR_l2 K n x.1 x.2.1 x.2.2.1 x.2.2.2.1 x.2.2.2.2.1 x.2.2.2.2.2.1 x.2.2.2.2.2.2.1 w)) (body := cd (bodyOf f30) [1, 1, 1, 1, 1, 1, 0, 1, 0, 0]) (rijndael_Stream_XOR_Eok K) (rijndael_Stream_XOR_Rok K) rfl (Orc.cons (by kernel_rfl) (rijndael_Stream_XOR_s3_se_ok K [(10, 12), (35, 89)] (by kernel_rfl)) (Orc.cons (by kernel_rfl) (rijndael_Stream_XOR_s4_se_ok K [(10, 12), (35, 89)] (by kernel_rfl)) (Orc.cons (by kernel_rfl) (rijndael_Stream_XOR_s5_se_ok K [(10, 12), (35, 89)] (by kernel_rfl)) (Orc.nil _ _ _)))) (by kernel_rfl) (fun _ _ => by kernel_rfl) (fun _ _ _ => by kernel_rfl) n
noncomputable def rijndael_Stream_XOR_l2_se (K : Nat) : SE := stmtN [(0, .ptr), (6, .sl), (8, .sl), (9, .addr), (33, .sl), (34, .int .i64), (35, .int .i64)] [] [(10, 12), (35, 89)] (fun x w => rijndael_Stream_XOR_l2 K K x.1 x.2.1 x.2.2.1 x.2.2.2.1 x.2.2.2.2.1 x.2.2.2.2.2.1 x.2.2.2.2.2.2.1 w)
theorem rijndael_Stream_XOR_l2_se_ok (K : Nat) (R : Rg) (h : subRB [(10, 12), (35, 89)] R = true) : (rijndael_Stream_XOR_l2_se K).Ok prog R (.block 0 (.loop (cd (bodyOf f30) [1, 1, 1, 1, 1, 1, 0, 1, 0, 0]))) := stmtN_ok (Li := [(0, .ptr), (6, .sl), (8, .sl), (9, .addr), (33, .sl), (34, .int .i64), (35, .int .i64)]) (Lo := []) (S := (fun x w => rijndael_Stream_XOR_l2 K K x.1 x.2.1 x.2.2.1 x.2.2.2.1 x.2.2.2.2.1 x.2.2.2.2.2.1 x.2.2.2.2.2.2.1 w)) (rijndael_Stream_XOR_l2_ok K K) (subR_of h)
theorem rijndael_Stream_XOR_facts : FunFacts prog 30 f30 (bodyOf f30) [(0, .ptr), (1, .sl)] [(0, 90)] := ⟨func30, by kernel_rfl, by kernel_rfl, by kernel_rfl, by kernel_rfl, by kernel_rfl⟩
theorem rijndael_Stream_XOR_calls (K : Nat) (x : TT [(0, .ptr), (1, .sl)]) (w : World) (y : TR [.sl, .int .i64]) (w2 : World) (h : rijndael_Stream_XOR K x.1 x.2.1 w = some (y, w2)) : Calls prog 30 (encA [(0, .ptr), (1, .sl)] x).toArray w (fun e w3 => e = .returned (resV (encR [.sl, .int .i64] y)) ∧ w3 = w2) :=
    mk_fun (O := tabL [([1, 1, 0, 0], rijndael_Stream_XOR_s0_se K), ([1, 1, 0, 1], rijndael_Stream_XOR_s1_se K), ([1, 1, 1, 1, 1, 1, 0, 1], rijndael_Stream_XOR_l2_se K), ([1, 1, 1, 1, 1, 1, 0, 1, 0, 0, 1, 1, 0, 0, 1, 0, 0], rijndael_Stream_XOR_s3_se K), ([1, 1, 1, 1, 1, 1, 0, 1, 0, 0, 1, 1, 0, 0, 1, 0, 1], rijndael_Stream_XOR_s4_se K), ([1, 1, 1, 1, 1, 1, 0, 1, 0, 0, 1, 1, 0, 0, 1, 0, 1, 0], rijndael_Stream_XOR_s5_se K)]) (Lp := [(0, .ptr), (1, .sl)]) (Rt := [.sl, .int .i64]) (S := (fun x w => rijndael_Stream_XOR K x.1 x.2.1 w)) (rijndael_Stream_XOR_Eok K) (rijndael_Stream_XOR_Rok K) rfl rijndael_Stream_XOR_facts (Orc.cons (by kernel_rfl) (rijndael_Stream_XOR_s0_se_ok K [(0, 90)] (by kernel_rfl)) (Orc.cons (by kernel_rfl) (rijndael_Stream_XOR_s1_se_ok K [(0, 90)] (by kernel_rfl)) (Orc.cons (by kernel_rfl) (rijndael_Stream_XOR_l2_se_ok K [(0, 90)] (by kernel_rfl)) (Orc.cons (by kernel_rfl) (rijndael_Stream_XOR_s3_se_ok K [(0, 90)] (by kernel_rfl)) (Orc.cons (by kernel_rfl) (rijndael_Stream_XOR_s4_se_ok K [(0, 90)] (by kernel_rfl)) (Orc.cons (by kernel_rfl) (rijndael_Stream_XOR_s5_se_ok K [(0, 90)] (by kernel_rfl)) (Orc.nil _ _ _))))))) (fun _ _ => by kernel_rfl) x w y w2 h
noncomputable def rijndael_Stream_XOR_ce (K : Nat) : CE := funE [(0, .ptr), (1, .sl)] [.sl, .int .i64] (fun x w => rijndael_Stream_XOR K x.1 x.2.1 w)
theorem rijndael_Stream_XOR_ok (K : Nat) : (rijndael_Stream_XOR_ce K).Ok prog 30 := funE_ok (Rt := [.sl, .int .i64]) (S := (fun x w => rijndael_Stream_XOR K x.1 x.2.1 w)) rijndael_Stream_XOR_facts fun x w y w2 h => rijndael_Stream_XOR_calls K x w y w2 h

noncomputable def rijndael_Wrap_E (K : Nat) : List (Nat × CE) := [(44, rijndael_Key_schedule_ce), (51, rijndael_lay_ce K), (45, rijndael_tables_encrypt_ce K)]
theorem rijndael_Wrap_Eok (K : Nat) : Env.Ok prog (tab (rijndael_Wrap_E K)) := (Env.cons (rijndael_Key_schedule_ok) (Env.cons (rijndael_lay_ok K) (Env.cons (rijndael_tables_encrypt_ok K) (Env.nil _))))
noncomputable def rijndael_Wrap_R (K : Nat) : List (Nat × RE) := [(39, rijndael_number_re K)]
theorem rijndael_Wrap_Rok (K : Nat) : REnv.Ok prog (tab (rijndael_Wrap_R K)) := (REnv.cons (rijndael_number_ok K) (REnv.nil _))
noncomputable def rijndael_Wrap_s1 (K : Nat) (plain1 : Sl) (w : World) : Option ((Bool × Unit) × World) :=
  if (decide (((plain1.len : Nat) : Int) < 16)) = true then (some ((true, ()), w)) else (some ((((Int.tmod ((plain1.len : Nat) : Int) 8) != 0), ()), w))
noncomputable def rijndael_Wrap_s0 (K : Nat) (plain1 : Sl) (e7 : Int) (w : World) : Option ((Out (Unit) (Sl × Int × Unit)) × World) :=
  if (e7 != 0) = true then (some (.ret (⟨none, 0, 0⟩, e7, ()), w)) else (bnd (rijndael_Wrap_s1 K plain1 w) fun y_3 w_4 =>
  if y_3.1 = true then (some (.ret (⟨none, 0, 0⟩, 5, ()), w_4)) else (if (decide (((plain1.len : Nat) : Int) > 4096)) = true then (some (.ret (⟨none, 0, 0⟩, 4, ()), w_4)) else (some (.norm (), w_4))))
noncomputable def rijndael_Wrap_l2_b (K : Nat) (rec : Option Addr → Sl → Addr → Int → Int → Int → World → Option ((Unit) × World)) (k0 : Option Addr) (w6 : Sl) (s8 : Addr) (n9 : Int) (a44 : Int) (a45 : Int) (w : World) : Option ((Unit) × World) :=
  if (decide (a45 < a44)) = true then (if n9 ≠ 0 then (bnd (newB z42 42 w) fun b_14 w_15 =>
  (ldI .u64 (s8.add 0) w_15.drew).bind fun v_16 =>
  bnd (rijndael_lay K ⟨(sla (some b_14) 0 16 1), (16 - 0), (16 - 0)⟩ 8 v_16 w_15.drew) fun r_17 w_18 =>
  (ldS (s8.add 1) w_18.drew).bind fun v_19 =>
  if (0 : Int) ≤ (IntKind.i64.wrap ((Int.tmod a45 n9) * 8)) ∧ (IntKind.i64.wrap ((Int.tmod a45 n9) * 8)) ≤ ((v_19.len : Nat) : Int) then (bnd (cpy prog 22 22 (.slice (sla (some b_14) 8 16 1) (16 - 8) (16 - 8)) (.slice (sla v_19.a (Int.toNat ((IntKind.i64.wrap ((Int.tmod a45 n9) * 8)))) v_19.cap 1) (v_19.len - (Int.toNat ((IntKind.i64.wrap ((Int.tmod a45 n9) * 8))))) (v_19.cap - (Int.toNat ((IntKind.i64.wrap ((Int.tmod a45 n9) * 8)))))) w_18.drew) fun s_20 w_21 =>
  (k0).bind fun p_22 =>
  (ldP (p_22.add 7) w_21.drew).bind fun v_23 =>
  (ldA 16 b_14 w_21.drew).bind fun v_24 =>
  bnd (rijndael_tables_encrypt K v_23 w6 v_24 w_21.drew) fun r_25 w_26 =>
  if (r_25.1).size = 16 then ((stA b_14 r_25.1 w_26).bind fun w_27 =>
  (rijndael_number K ⟨(sla (some b_14) 0 16 1), (16 - 0), (16 - 0)⟩ 8 w_27).bind fun r_28 =>
  (stC (s8.add 0) (.int .u64 (bits .xor .u64 r_28.1 (IntKind.u64.wrap (IntKind.i64.wrap (a45 + 1))))) w_27).bind fun w_29 =>
  (ldS (s8.add 1) w_29.drew).bind fun v_30 =>
  if (0 : Int) ≤ (IntKind.i64.wrap ((IntKind.i64.wrap ((Int.tmod a45 n9) * 8)) + 8)) ∧ (IntKind.i64.wrap ((IntKind.i64.wrap ((Int.tmod a45 n9) * 8)) + 8)) ≤ ((v_30.cap : Nat) : Int) then (if (0 : Int) ≤ (IntKind.i64.wrap ((Int.tmod a45 n9) * 8)) ∧ (IntKind.i64.wrap ((Int.tmod a45 n9) * 8)) ≤ (((Int.toNat ((IntKind.i64.wrap ((IntKind.i64.wrap ((Int.tmod a45 n9) * 8)) + 8)))) : Nat) : Int) then (bnd (cpy prog 22 22 (.slice (sla v_30.a (Int.toNat ((IntKind.i64.wrap ((Int.tmod a45 n9) * 8)))) v_30.cap 1) ((Int.toNat ((IntKind.i64.wrap ((IntKind.i64.wrap ((Int.tmod a45 n9) * 8)) + 8)))) - (Int.toNat ((IntKind.i64.wrap ((Int.tmod a45 n9) * 8))))) (v_30.cap - (Int.toNat ((IntKind.i64.wrap ((Int.tmod a45 n9) * 8)))))) (.slice (sla (some b_14) 8 16 1) (16 - 8) (16 - 8)) w_29.drew) fun s_31 w_32 =>
  rec k0 w6 s8 n9 a44 (IntKind.i64.wrap (a45 + 1)) w_32) else none) else none) else none) else none) else none) else (some ((), w))
noncomputable def rijndael_Wrap_l2 (K : Nat) (n : Nat) : Option Addr → Sl → Addr → Int → Int → Int → World → Option ((Unit) × World) := iter (fun _ _ _ _ _ _ _ => none) (rijndael_Wrap_l2_b K) n
/-- coffer/rijndael.Wrap -/
noncomputable def rijndael_Wrap (K : Nat) (k0 : Option Addr) (plain1 : Sl) (w : World) : Option ((Sl × Int × Unit) × World) :=
  bnd (rijndael_Key_schedule k0 false w) fun r_1 w_2 =>
  bnd (rijndael_Wrap_s0 K plain1 r_1.2.1 w_2) fun y_5 w_6 =>
  (match y_5 with
  | .norm z_7n => (bnd (apd prog 22 22 (.slice none 0 0) (.slice plain1.a plain1.len plain1.cap) w_6) fun s_8 w_9 =>
  (prog.built 111 [(0, (.int .u64 12008468691120727718)), (1, (.slice s_8.a s_8.len s_8.cap))]).bind fun cs_10 =>
  bnd (newB z111 111 w_9) fun s_11 w_12 =>
  if (cs_10).size = 2 then ((stA s_11 cs_10 w_12).bind fun w_13 =>
  bnd (rijndael_Wrap_l2 K K k0 r_1.1 s_11 (IntKind.i64.wrap (Int.tdiv ((plain1.len : Nat) : Int) 8)) (IntKind.i64.wrap (6 * (IntKind.i64.wrap (Int.tdiv ((plain1.len : Nat) : Int) 8)))) 0 w_13) fun y_33 w_34 =>
  (ldS (s_11.add 1) w_34).bind fun v_35 =>
  bnd (mkS prog 22 (.int .i64 8) (.int .i64 (IntKind.i64.wrap (8 + ((v_35.len : Nat) : Int)))) w_34) fun s_36 w_37 =>
  (ldI .u64 (s_11.add 0) w_37).bind fun v_38 =>
  bnd (rijndael_lay K s_36 8 v_38 w_37) fun r_39 w_40 =>
  (ldS (s_11.add 1) w_40).bind fun v_41 =>
  bnd (apd prog 22 22 (.slice s_36.a s_36.len s_36.cap) (.slice v_41.a v_41.len v_41.cap) w_40) fun s_42 w_43 =>
  some ((s_42, 0, ()), w_43)) else none)
  | .ret z_7r => (some ((z_7r.1, z_7r.2.1, ()), w_6)))
theorem rijndael_Wrap_s1_ok (K : Nat) : StmtNOk prog [(1, .sl)] [(23, .bool)] [(23, 33)] (fun x w => rijndael_Wrap_s1 K x.1 w) (cd (bodyOf f35) [1, 1, 0, 0, 1, 1, 0]) :=
    mk_stmtN (O := tabL []) (root := (bodyOf f35)) (π := [1, 1, 0, 0, 1, 1, 0]) (Li := [(1, .sl)]) (Lo := [(23, .bool)]) (S := (fun x w => rijndael_Wrap_s1 K x.1 w)) (rijndael_Wrap_Eok K) (rijndael_Wrap_Rok K) rfl (Orc.nil _ _ _) (by kernel_rfl) (fun _ _ => by kernel_rfl)
noncomputable def rijndael_Wrap_s1_se (K : Nat) : SE := stmtN [(1, .sl)] [(23, .bool)] [(23, 33)] (fun x w => rijndael_Wrap_s1 K x.1 w)
theorem rijndael_Wrap_s1_se_ok (K : Nat) (R : Rg) (h : subRB [(23, 33)] R = true) : (rijndael_Wrap_s1_se K).Ok prog R (cd (bodyOf f35) [1, 1, 0, 0, 1, 1, 0]) := stmtN_ok (Li := [(1, .sl)]) (Lo := [(23, .bool)]) (S := (fun x w => rijndael_Wrap_s1 K x.1 w)) (rijndael_Wrap_s1_ok K) (subR_of h)
theorem rijndael_Wrap_s0_ok (K : Nat) : StmtOk prog [(1, .sl), (7, .int .i64)] [] [(4, .sl), (5, .int .i64)] [(4, 6), (19, 37)] (fun x w => rijndael_Wrap_s0 K x.1 x.2.1 w) (cd (bodyOf f35) [1, 1, 0]) :=
    mk_stmt (O := tabL [([1, 1, 0, 0, 1, 1, 0], rijndael_Wrap_s1_se K)]) (root := (bodyOf f35)) (π := [1, 1, 0]) (Li := [(1, .sl), (7, .int .i64)]) (Lo := []) (Lr := [(4, .sl), (5, .int .i64)]) (S := (fun x w => rijndael_Wrap_s0 K x.1 x.2.1 w)) (rijndael_Wrap_Eok K) (rijndael_Wrap_Rok K) rfl (Orc.cons (by kernel_rfl) (rijndael_Wrap_s1_se_ok K [(4, 6), (19, 37)] (by kernel_rfl)) (Orc.nil _ _ _)) (by kernel_rfl) (fun _ _ => by kernel_rfl)
noncomputable def rijndael_Wrap_s0_se (K : Nat) : SE := stmt [(1, .sl), (7, .int .i64)] [] [(4, .sl), (5, .int .i64)] [(4, 6), (19, 37)] (fun x w => rijndael_Wrap_s0 K x.1 x.2.1 w)
theorem rijndael_Wrap_s0_se_ok (K : Nat) (R : Rg) (h : subRB [(4, 6), (19, 37)] R = true) : (rijndael_Wrap_s0_se K).Ok prog R (cd (bodyOf f35) [1, 1, 0]) := stmt_ok (Li := [(1, .sl), (7, .int .i64)]) (Lo := []) (Lr := [(4, .sl), (5, .int .i64)]) (S := (fun x w => rijndael_Wrap_s0 K x.1 x.2.1 w)) (rijndael_Wrap_s0_ok K) (subR_of h)
theorem rijndael_Wrap_l2_ok (K : Nat) (n : Nat) : StmtNOk prog [(0, .ptr), (6, .sl), (8, .addr), (9, .int .i64), (44, .int .i64), (45, .int .i64)] [] [(10, 13), (45, 85)] ((fun n x w => rijndael_Wrap_l2 K n x.1 x.2.1 x.2.2.1 x.2.2.2.1 x.2.2.2.2.1 x.2.2.2.2.2.1 w) n) (.block 1 (.loop (cd (bodyOf f35) [1, 1, 1, 1, 1, 0, 1, 0, 0]))) :=
    mk_loopN (O := tabL []) (root := (bodyOf f35)) (π := [1, 1, 1, 1, 1, 0, 1, 0, 0]) (id := 1) (Li := [(0, .ptr), (6, .sl), (8, .addr), (9, .int .i64), (44, .int .i64), (45, .int .i64)]) (Lo := []) (S := (fun n x w => rijndael_Wrap_l2 K n x.1 x.2.1 x.2.2.1 x.2.2.2.1 x.2.2.2.2.1 x.2.2.2.2.2.1 w)) (body := cd (bodyOf f35) [1, 1, 1, 1, 1, 0, 1, 0, 0]) (rijndael_Wrap_Eok K) (rijndael_Wrap_Rok K) rfl (Orc.nil _ _ _) (by kernel_rfl) (fun _ _ => by kernel_rfl) (fun _ _ _ => by kernel_rfl) n
noncomputable def rijndael_Wrap_l2_se (K : Nat) : SE := stmtN [(0, .ptr), (6, .sl), (8, .addr), (9, .int .i64), (44, .int .i64), (45, .int .i64)] [] [(10, 13), (45, 85)] (fun x w => rijndael_Wrap_l2 K K x.1 x.2.1 x.2.2.1 x.2.2.2.1 x.2.2.2.2.1 x.2.2.2.2.2.1 w)
theorem rijndael_Wrap_l2_se_ok (K : Nat) (R : Rg) (h : subRB [(10, 13), (45, 85)] R = true) : (rijndael_Wrap_l2_se K).Ok prog R (.block 1 (.loop (cd (bodyOf f35) [1, 1, 1, 1, 1, 0, 1, 0, 0]))) := stmtN_ok (Li := [(0, .ptr), (6, .sl), (8, .addr), (9, .int .i64), (44, .int .i64), (45, .int .i64)]) (Lo := []) (S := (fun x w => rijndael_Wrap_l2 K K x.1 x.2.1 x.2.2.1 x.2.2.2.1 x.2.2.2.2.1 x.2.2.2.2.2.1 w)) (rijndael_Wrap_l2_ok K K) (subR_of h)
theorem rijndael_Wrap_facts : FunFacts prog 35 f35 (bodyOf f35) [(0, .ptr), (1, .sl)] [(0, 98)] := ⟨func35, by kernel_rfl, by kernel_rfl, by kernel_rfl, by kernel_rfl, by kernel_rfl⟩
theorem rijndael_Wrap_calls (K : Nat) (x : TT [(0, .ptr), (1, .sl)]) (w : World) (y : TR [.sl, .int .i64]) (w2 : World) (h : rijndael_Wrap K x.1 x.2.1 w = some (y, w2)) : Calls prog 35 (encA [(0, .ptr), (1, .sl)] x).toArray w (fun e w3 => e = .returned (resV (encR [.sl, .int .i64] y)) ∧ w3 = w2) :=
    mk_fun (O := tabL [([1, 1, 0], rijndael_Wrap_s0_se K), ([1, 1, 0, 0, 1, 1, 0], rijndael_Wrap_s1_se K), ([1, 1, 1, 1, 1, 0, 1], rijndael_Wrap_l2_se K)]) (Lp := [(0, .ptr), (1, .sl)]) (Rt := [.sl, .int .i64]) (S := (fun x w => rijndael_Wrap K x.1 x.2.1 w)) (rijndael_Wrap_Eok K) (rijndael_Wrap_Rok K) rfl rijndael_Wrap_facts (Orc.cons (by kernel_rfl) (rijndael_Wrap_s0_se_ok K [(0, 98)] (by kernel_rfl)) (Orc.cons (by kernel_rfl) (rijndael_Wrap_s1_se_ok K [(0, 98)] (by kernel_rfl)) (Orc.cons (by kernel_rfl) (rijndael_Wrap_l2_se_ok K [(0, 98)] (by kernel_rfl)) (Orc.nil _ _ _)))) (fun _ _ => by kernel_rfl) x w y w2 h
noncomputable def rijndael_Wrap_ce (K : Nat) : CE := funE [(0, .ptr), (1, .sl)] [.sl, .int .i64] (fun x w => rijndael_Wrap K x.1 x.2.1 w)
theorem rijndael_Wrap_ok (K : Nat) : (rijndael_Wrap_ce K).Ok prog 35 := funE_ok (Rt := [.sl, .int .i64]) (S := (fun x w => rijndael_Wrap K x.1 x.2.1 w)) rijndael_Wrap_facts fun x w y w2 h => rijndael_Wrap_calls K x w y w2 h

noncomputable def law02_wraps_E (K : Nat) : List (Nat × CE) := [(27, law02_counted_ce K), (10, rijndael_New_ce K), (35, rijndael_Wrap_ce K), (31, book_SameBytes_ce K)]
theorem law02_wraps_Eok (K : Nat) : Env.Ok prog (tab (law02_wraps_E K)) := (Env.cons (law02_counted_ok K) (Env.cons (rijndael_New_ok K) (Env.cons (rijndael_Wrap_ok K) (Env.cons (book_SameBytes_ok K) (Env.nil _)))))
noncomputable def law02_wraps_R (K : Nat) : List (Nat × RE) := [(12, law02_num_re)]
theorem law02_wraps_Rok (K : Nat) : REnv.Ok prog (tab (law02_wraps_R K)) := (REnv.cons (law02_num_ok) (REnv.nil _))
noncomputable def law02_wraps_s0 (K : Nat) (k1 : Option Addr) (e2 : Int) (l3 : Option Addr) (f4 : Int) (w : World) : Option ((Bool × Unit) × World) :=
  if k1.isNone = true then (some ((true, ()), w)) else (if l3.isNone = true then (some ((true, ()), w)) else ((law02_num e2).bind fun r_9 =>
  if (r_9.1 != 0) = true then (some ((true, ()), w)) else ((law02_num f4).bind fun r_10 =>
  some (((r_10.1 != 0), ()), w))))
noncomputable def law02_wraps_s1 (K : Nat) (e2 : Int) (a5 : Sl) (w : World) : Option ((Bool × Unit) × World) :=
  (law02_num e2).bind fun r_17 =>
  if (r_17.1 != 0) = true then (some ((true, ()), w)) else (bnd (bldS prog 22 24 #[(0, (.int .u8 31)), (1, (.int .u8 166)), (2, (.int .u8 139)), (3, (.int .u8 10)), (4, (.int .u8 129)), (5, (.int .u8 18)), (6, (.int .u8 180)), (7, (.int .u8 71)), (8, (.int .u8 174)), (9, (.int .u8 243)), (10, (.int .u8 75)), (11, (.int .u8 216)), (12, (.int .u8 251)), (13, (.int .u8 90)), (14, (.int .u8 123)), (15, (.int .u8 130)), (16, (.int .u8 157)), (17, (.int .u8 62)), (18, (.int .u8 134)), (19, (.int .u8 35)), (20, (.int .u8 113)), (21, (.int .u8 210)), (22, (.int .u8 207)), (23, (.int .u8 229))] w) fun s_18 w_19 =>
  bnd (book_SameBytes K a5 s_18 w_19) fun r_20 w_21 =>
  some (((!r_20.1), ()), w_21))
/-- coffer/cofferlaw02.wraps -/
noncomputable def law02_wraps (K : Nat)  (w : World) : Option ((Bool × Unit) × World) :=
  bnd (law02_counted K 16 1 w) fun r_1 w_2 =>
  bnd (rijndael_New K r_1.1 w_2) fun r_3 w_4 =>
  bnd (law02_counted K 32 1 w_4) fun r_5 w_6 =>
  bnd (rijndael_New K r_5.1 w_6) fun r_7 w_8 =>
  bnd (law02_wraps_s0 K r_3.1 r_3.2.1 r_7.1 r_7.2.1 w_8) fun y_11 w_12 =>
  if y_11.1 = true then (some ((false, ()), w_12)) else (bnd (law02_counted K 16 17 w_12) fun r_13 w_14 =>
  bnd (rijndael_Wrap K r_3.1 r_13.1 w_14) fun r_15 w_16 =>
  bnd (law02_wraps_s1 K r_15.2.1 r_15.1 w_16) fun y_22 w_23 =>
  if y_22.1 = true then (some ((false, ()), w_23)) else (bnd (law02_counted K 16 17 w_23) fun r_24 w_25 =>
  bnd (law02_counted K 16 1 w_25) fun r_26 w_27 =>
  bnd (apd prog 22 22 (.slice r_24.1.a r_24.1.len r_24.1.cap) (.slice r_26.1.a r_26.1.len r_26.1.cap) w_27) fun s_28 w_29 =>
  bnd (rijndael_Wrap K r_7.1 s_28 w_29) fun r_30 w_31 =>
  (law02_num r_30.2.1).bind fun r_32 =>
  if (r_32.1 == 0) = true then (bnd (bldS prog 22 40 #[(0, (.int .u8 40)), (1, (.int .u8 201)), (2, (.int .u8 244)), (3, (.int .u8 4)), (4, (.int .u8 196)), (5, (.int .u8 184)), (6, (.int .u8 16)), (7, (.int .u8 244)), (8, (.int .u8 203)), (9, (.int .u8 204)), (10, (.int .u8 179)), (11, (.int .u8 92)), (12, (.int .u8 251)), (13, (.int .u8 135)), (14, (.int .u8 248)), (15, (.int .u8 38)), (16, (.int .u8 63)), (17, (.int .u8 87)), (18, (.int .u8 134)), (19, (.int .u8 226)), (20, (.int .u8 216)), (21, (.int .u8 14)), (22, (.int .u8 211)), (23, (.int .u8 38)), (24, (.int .u8 203)), (25, (.int .u8 199)), (26, (.int .u8 240)), (27, (.int .u8 231)), (28, (.int .u8 26)), (29, (.int .u8 153)), (30, (.int .u8 244)), (31, (.int .u8 59)), (32, (.int .u8 251)), (33, (.int .u8 152)), (34, (.int .u8 139)), (35, (.int .u8 155)), (36, (.int .u8 122)), (37, (.int .u8 2)), (38, (.int .u8 221)), (39, (.int .u8 33))] w_31) fun s_33 w_34 =>
  bnd (book_SameBytes K r_30.1 s_33 w_34) fun r_35 w_36 =>
  some ((r_35.1, ()), w_36)) else (some ((false, ()), w_31))))
theorem law02_wraps_s0_ok (K : Nat) : StmtNOk prog [(1, .ptr), (2, .int .i64), (3, .ptr), (4, .int .i64)] [(33, .bool)] [(18, 34)] (fun x w => law02_wraps_s0 K x.1 x.2.1 x.2.2.1 x.2.2.2.1 w) (cd (bodyOf f32) [1, 1, 1, 0, 0]) :=
    mk_stmtN (O := tabL []) (root := (bodyOf f32)) (π := [1, 1, 1, 0, 0]) (Li := [(1, .ptr), (2, .int .i64), (3, .ptr), (4, .int .i64)]) (Lo := [(33, .bool)]) (S := (fun x w => law02_wraps_s0 K x.1 x.2.1 x.2.2.1 x.2.2.2.1 w)) (law02_wraps_Eok K) (law02_wraps_Rok K) rfl (Orc.nil _ _ _) (by kernel_rfl) (fun _ _ => by kernel_rfl)
noncomputable def law02_wraps_s0_se (K : Nat) : SE := stmtN [(1, .ptr), (2, .int .i64), (3, .ptr), (4, .int .i64)] [(33, .bool)] [(18, 34)] (fun x w => law02_wraps_s0 K x.1 x.2.1 x.2.2.1 x.2.2.2.1 w)
theorem law02_wraps_s0_se_ok (K : Nat) (R : Rg) (h : subRB [(18, 34)] R = true) : (law02_wraps_s0_se K).Ok prog R (cd (bodyOf f32) [1, 1, 1, 0, 0]) := stmtN_ok (Li := [(1, .ptr), (2, .int .i64), (3, .ptr), (4, .int .i64)]) (Lo := [(33, .bool)]) (S := (fun x w => law02_wraps_s0 K x.1 x.2.1 x.2.2.1 x.2.2.2.1 w)) (law02_wraps_s0_ok K) (subR_of h)
theorem law02_wraps_s1_ok (K : Nat) : StmtNOk prog [(2, .int .i64), (5, .sl)] [(48, .bool)] [(40, 49)] (fun x w => law02_wraps_s1 K x.1 x.2.1 w) (cd (bodyOf f32) [1, 1, 1, 1, 1, 0, 0]) :=
    mk_stmtN (O := tabL []) (root := (bodyOf f32)) (π := [1, 1, 1, 1, 1, 0, 0]) (Li := [(2, .int .i64), (5, .sl)]) (Lo := [(48, .bool)]) (S := (fun x w => law02_wraps_s1 K x.1 x.2.1 w)) (law02_wraps_Eok K) (law02_wraps_Rok K) rfl (Orc.nil _ _ _) (by kernel_rfl) (fun _ _ => by kernel_rfl)
noncomputable def law02_wraps_s1_se (K : Nat) : SE := stmtN [(2, .int .i64), (5, .sl)] [(48, .bool)] [(40, 49)] (fun x w => law02_wraps_s1 K x.1 x.2.1 w)
theorem law02_wraps_s1_se_ok (K : Nat) (R : Rg) (h : subRB [(40, 49)] R = true) : (law02_wraps_s1_se K).Ok prog R (cd (bodyOf f32) [1, 1, 1, 1, 1, 0, 0]) := stmtN_ok (Li := [(2, .int .i64), (5, .sl)]) (Lo := [(48, .bool)]) (S := (fun x w => law02_wraps_s1 K x.1 x.2.1 w)) (law02_wraps_s1_ok K) (subR_of h)
theorem law02_wraps_facts : FunFacts prog 32 f32 (bodyOf f32) [] [(0, 66)] := ⟨func32, by kernel_rfl, by kernel_rfl, by kernel_rfl, by kernel_rfl, by kernel_rfl⟩
theorem law02_wraps_calls (K : Nat) (x : TT []) (w : World) (y : TR [.bool]) (w2 : World) (h : law02_wraps K  w = some (y, w2)) : Calls prog 32 (encA [] x).toArray w (fun e w3 => e = .returned (resV (encR [.bool] y)) ∧ w3 = w2) :=
    mk_fun (O := tabL [([1, 1, 1, 0, 0], law02_wraps_s0_se K), ([1, 1, 1, 1, 1, 0, 0], law02_wraps_s1_se K)]) (Lp := []) (Rt := [.bool]) (S := (fun x w => law02_wraps K  w)) (law02_wraps_Eok K) (law02_wraps_Rok K) rfl law02_wraps_facts (Orc.cons (by kernel_rfl) (law02_wraps_s0_se_ok K [(0, 66)] (by kernel_rfl)) (Orc.cons (by kernel_rfl) (law02_wraps_s1_se_ok K [(0, 66)] (by kernel_rfl)) (Orc.nil _ _ _))) (fun _ _ => by kernel_rfl) x w y w2 h
noncomputable def law02_wraps_ce (K : Nat) : CE := funE [] [.bool] (fun x w => law02_wraps K  w)
theorem law02_wraps_ok (K : Nat) : (law02_wraps_ce K).Ok prog 32 := funE_ok (Rt := [.bool]) (S := (fun x w => law02_wraps K  w)) law02_wraps_facts fun x w y w2 h => law02_wraps_calls K x w y w2 h

noncomputable def law02_RijndaelVectors_E (K : Nat) : List (Nat × CE) := [(27, law02_counted_ce K), (26, law02_blockOf_ce K), (28, law02_does_ce K), (10, rijndael_New_ce K), (16, rijndael_Key_Words_ce), (15, rijndael_Key_Rounds_ce), (14, rijndael_Key_Size_ce), (29, rijndael_Key_Stream_ce), (30, rijndael_Stream_XOR_ce K), (31, book_SameBytes_ce K), (32, law02_wraps_ce K)]
theorem law02_RijndaelVectors_Eok (K : Nat) : Env.Ok prog (tab (law02_RijndaelVectors_E K)) := (Env.cons (law02_counted_ok K) (Env.cons (law02_blockOf_ok K) (Env.cons (law02_does_ok K) (Env.cons (rijndael_New_ok K) (Env.cons (rijndael_Key_Words_ok) (Env.cons (rijndael_Key_Rounds_ok) (Env.cons (rijndael_Key_Size_ok) (Env.cons (rijndael_Key_Stream_ok) (Env.cons (rijndael_Stream_XOR_ok K) (Env.cons (book_SameBytes_ok K) (Env.cons (law02_wraps_ok K) (Env.nil _))))))))))))
noncomputable def law02_RijndaelVectors_R (K : Nat) : List (Nat × RE) := [(12, law02_num_re)]
theorem law02_RijndaelVectors_Rok (K : Nat) : REnv.Ok prog (tab (law02_RijndaelVectors_R K)) := (REnv.cons (law02_num_ok) (REnv.nil _))
noncomputable def law02_RijndaelVectors_s0 (K : Nat) (k3 : Option Addr) (e4 : Int) (w : World) : Option ((Bool × Unit) × World) :=
  if k3.isNone = true then (some ((true, ()), w)) else ((law02_num e4).bind fun r_33 =>
  some (((r_33.1 != 0), ()), w))
noncomputable def law02_RijndaelVectors_s1 (K : Nat) (k3 : Option Addr) (w5 : Sl) (w : World) : Option ((Bool × Unit) × World) :=
  if (((w5.len : Nat) : Int) != 44) = true then (some ((true, ()), w)) else ((w5.a).bind fun p_38 =>
  if (0 : Int) ≤ 4 ∧ 4 < ((w5.len : Nat) : Int) then ((ldI .u32 (p_38.add (4 * 1)) w).bind fun v_39 =>
  if (v_39 != 2700803607) = true then (some ((true, ()), w)) else ((w5.a).bind fun p_40 =>
  if (0 : Int) ≤ 43 ∧ 43 < ((w5.len : Nat) : Int) then ((ldI .u32 (p_40.add (43 * 1)) w).bind fun v_41 =>
  if (v_41 != 3059944614) = true then (some ((true, ()), w)) else (bnd (rijndael_Key_Rounds k3 w) fun r_42 w_43 =>
  if (r_42.1 != 10) = true then (some ((true, ()), w_43)) else (bnd (rijndael_Key_Size k3 w_43) fun r_44 w_45 =>
  some (((r_44.1 != 16), ()), w_45)))) else none)) else none)
noncomputable def law02_RijndaelVectors_l2_b (K : Nat) (rec : Option Addr → Addr → Int → World → Option ((Unit) × World)) (k3 : Option Addr) (start6 : Addr) (i7 : Int) (w : World) : Option ((Unit) × World) :=
  if (decide (i7 < 16)) = true then (if (0 : Int) ≤ i7 ∧ i7 < ((16 : Nat) : Int) then ((stC (start6.add ((Int.toNat i7) * 1)) (.int .u8 (IntKind.u8.wrap (IntKind.i64.wrap (240 + i7)))) w).bind fun w_50 =>
  rec k3 start6 (IntKind.i64.wrap (i7 + 1)) w_50) else none) else (some ((), w))
noncomputable def law02_RijndaelVectors_l2 (K : Nat) (n : Nat) : Option Addr → Addr → Int → World → Option ((Unit) × World) := iter (fun _ _ _ _ => none) (law02_RijndaelVectors_l2_b K) n
noncomputable def law02_RijndaelVectors_s3 (K : Nat) (e4 : Int) (s8 : Option Addr) (w : World) : Option ((Bool × Unit) × World) :=
  if s8.isNone = true then (some ((true, ()), w)) else ((law02_num e4).bind fun r_56 =>
  some (((r_56.1 != 0), ()), w))
/-- coffer/cofferlaw02.RijndaelVectors -/
noncomputable def law02_RijndaelVectors (K : Nat)  (w : World) : Option ((Bool × Unit) × World) :=
  bnd (law02_counted K 16 17 w) fun r_1 w_2 =>
  bnd (law02_blockOf K r_1.1 w_2) fun r_3 w_4 =>
  bnd (newB z42 42 w_4) fun in_5 w_6 =>
  if (r_3.1).size = 16 then ((stA in_5 r_3.1 w_6).bind fun w_7 =>
  (prog.built 42 [(0, (.int .u8 105)), (1, (.int .u8 196)), (2, (.int .u8 224)), (3, (.int .u8 216)), (4, (.int .u8 106)), (5, (.int .u8 123)), (6, (.int .u8 4)), (7, (.int .u8 48)), (8, (.int .u8 216)), (9, (.int .u8 205)), (10, (.int .u8 183)), (11, (.int .u8 128)), (12, (.int .u8 112)), (13, (.int .u8 180)), (14, (.int .u8 197)), (15, (.int .u8 90))]).bind fun cs_8 =>
  (ldA 16 in_5 w_7.drew).bind fun v_9 =>
  bnd (law02_counted K 16 1 w_7.drew) fun r_10 w_11 =>
  (ldA 16 in_5 w_11).bind fun v_12 =>
  sameK (.agg v_9) (.agg v_12) (bnd (law02_does K r_10.1 v_9 cs_8 w_11) fun r_13 w_14 =>
  if (!r_13.1) = true then (some ((false, ()), w_14)) else ((prog.built 42 [(0, (.int .u8 221)), (1, (.int .u8 169)), (2, (.int .u8 124)), (3, (.int .u8 164)), (4, (.int .u8 134)), (5, (.int .u8 76)), (6, (.int .u8 223)), (7, (.int .u8 224)), (8, (.int .u8 110)), (9, (.int .u8 175)), (10, (.int .u8 112)), (11, (.int .u8 160)), (12, (.int .u8 236)), (13, (.int .u8 13)), (14, (.int .u8 113)), (15, (.int .u8 145))]).bind fun cs_15 =>
  (ldA 16 in_5 w_14.drew).bind fun v_16 =>
  bnd (law02_counted K 24 1 w_14.drew) fun r_17 w_18 =>
  (ldA 16 in_5 w_18).bind fun v_19 =>
  sameK (.agg v_16) (.agg v_19) (bnd (law02_does K r_17.1 v_16 cs_15 w_18) fun r_20 w_21 =>
  if (!r_20.1) = true then (some ((false, ()), w_21)) else ((prog.built 42 [(0, (.int .u8 142)), (1, (.int .u8 162)), (2, (.int .u8 183)), (3, (.int .u8 202)), (4, (.int .u8 81)), (5, (.int .u8 103)), (6, (.int .u8 69)), (7, (.int .u8 191)), (8, (.int .u8 234)), (9, (.int .u8 252)), (10, (.int .u8 73)), (11, (.int .u8 144)), (12, (.int .u8 75)), (13, (.int .u8 73)), (14, (.int .u8 96)), (15, (.int .u8 137))]).bind fun cs_22 =>
  (ldA 16 in_5 w_21.drew).bind fun v_23 =>
  bnd (law02_counted K 32 1 w_21.drew) fun r_24 w_25 =>
  (ldA 16 in_5 w_25).bind fun v_26 =>
  sameK (.agg v_23) (.agg v_26) (bnd (law02_does K r_24.1 v_23 cs_22 w_25) fun r_27 w_28 =>
  if (!r_27.1) = true then (some ((false, ()), w_28)) else (bnd (bldS prog 22 16 #[(0, (.int .u8 43)), (1, (.int .u8 126)), (2, (.int .u8 21)), (3, (.int .u8 22)), (4, (.int .u8 40)), (5, (.int .u8 174)), (6, (.int .u8 210)), (7, (.int .u8 166)), (8, (.int .u8 171)), (9, (.int .u8 247)), (10, (.int .u8 21)), (11, (.int .u8 136)), (12, (.int .u8 9)), (13, (.int .u8 207)), (14, (.int .u8 79)), (15, (.int .u8 60))] w_28) fun s_29 w_30 =>
  bnd (rijndael_New K s_29 w_30) fun r_31 w_32 =>
  bnd (law02_RijndaelVectors_s0 K r_31.1 r_31.2.1 w_32) fun y_34 w_35 =>
  if y_34.1 = true then (some ((false, ()), w_35)) else (bnd (rijndael_Key_Words r_31.1 w_35) fun r_36 w_37 =>
  bnd (law02_RijndaelVectors_s1 K r_31.1 r_36.1 w_37) fun y_46 w_47 =>
  if y_46.1 = true then (some ((false, ()), w_47)) else (bnd (newB z42 42 w_47) fun start_48 w_49 =>
  bnd (law02_RijndaelVectors_l2 K K r_31.1 start_48 0 w_49) fun y_51 w_52 =>
  (ldA 16 start_48 w_52).bind fun v_53 =>
  bnd (rijndael_Key_Stream r_31.1 v_53 w_52) fun r_54 w_55 =>
  bnd (law02_RijndaelVectors_s3 K r_54.2.1 r_54.1 w_55) fun y_57 w_58 =>
  if y_57.1 = true then (some ((false, ()), w_58)) else (bnd (bldS prog 22 16 #[(0, (.int .u8 107)), (1, (.int .u8 193)), (2, (.int .u8 190)), (3, (.int .u8 226)), (4, (.int .u8 46)), (5, (.int .u8 64)), (6, (.int .u8 159)), (7, (.int .u8 150)), (8, (.int .u8 233)), (9, (.int .u8 61)), (10, (.int .u8 126)), (11, (.int .u8 17)), (12, (.int .u8 115)), (13, (.int .u8 147)), (14, (.int .u8 23)), (15, (.int .u8 42))] w_58) fun s_59 w_60 =>
  bnd (rijndael_Stream_XOR K r_54.1 s_59 w_60) fun r_61 w_62 =>
  (law02_num r_61.2.1).bind fun r_63 =>
  if (r_63.1 != 0) = true then (some ((false, ()), w_62)) else (bnd (bldS prog 22 16 #[(0, (.int .u8 135)), (1, (.int .u8 77)), (2, (.int .u8 97)), (3, (.int .u8 145)), (4, (.int .u8 182)), (5, (.int .u8 32)), (6, (.int .u8 227)), (7, (.int .u8 38)), (8, (.int .u8 27)), (9, (.int .u8 239)), (10, (.int .u8 104)), (11, (.int .u8 100)), (12, (.int .u8 153)), (13, (.int .u8 13)), (14, (.int .u8 182)), (15, (.int .u8 206))] w_62) fun s_64 w_65 =>
  bnd (book_SameBytes K r_61.1 s_64 w_65) fun r_66 w_67 =>
  if (!r_66.1) = true then (some ((false, ()), w_67)) else (bnd (law02_wraps K  w_67) fun r_68 w_69 =>
  some ((r_68.1, ()), w_69))))))))))))) else none
theorem law02_RijndaelVectors_s0_ok (K : Nat) : StmtNOk prog [(3, .ptr), (4, .int .i64)] [(39, .bool)] [(33, 40)] (fun x w => law02_RijndaelVectors_s0 K x.1 x.2.1 w) (cd (bodyOf f5) [1, 1, 1, 1, 1, 1, 1, 0, 0]) :=
    mk_stmtN (O := tabL []) (root := (bodyOf f5)) (π := [1, 1, 1, 1, 1, 1, 1, 0, 0]) (Li := [(3, .ptr), (4, .int .i64)]) (Lo := [(39, .bool)]) (S := (fun x w => law02_RijndaelVectors_s0 K x.1 x.2.1 w)) (law02_RijndaelVectors_Eok K) (law02_RijndaelVectors_Rok K) rfl (Orc.nil _ _ _) (by kernel_rfl) (fun _ _ => by kernel_rfl)
noncomputable def law02_RijndaelVectors_s0_se (K : Nat) : SE := stmtN [(3, .ptr), (4, .int .i64)] [(39, .bool)] [(33, 40)] (fun x w => law02_RijndaelVectors_s0 K x.1 x.2.1 w)
theorem law02_RijndaelVectors_s0_se_ok (K : Nat) (R : Rg) (h : subRB [(33, 40)] R = true) : (law02_RijndaelVectors_s0_se K).Ok prog R (cd (bodyOf f5) [1, 1, 1, 1, 1, 1, 1, 0, 0]) := stmtN_ok (Li := [(3, .ptr), (4, .int .i64)]) (Lo := [(39, .bool)]) (S := (fun x w => law02_RijndaelVectors_s0 K x.1 x.2.1 w)) (law02_RijndaelVectors_s0_ok K) (subR_of h)
theorem law02_RijndaelVectors_s1_ok (K : Nat) : StmtNOk prog [(3, .ptr), (5, .sl)] [(66, .bool)] [(42, 67)] (fun x w => law02_RijndaelVectors_s1 K x.1 x.2.1 w) (cd (bodyOf f5) [1, 1, 1, 1, 1, 1, 1, 1, 1, 0, 0]) :=
    mk_stmtN (O := tabL []) (root := (bodyOf f5)) (π := [1, 1, 1, 1, 1, 1, 1, 1, 1, 0, 0]) (Li := [(3, .ptr), (5, .sl)]) (Lo := [(66, .bool)]) (S := (fun x w => law02_RijndaelVectors_s1 K x.1 x.2.1 w)) (law02_RijndaelVectors_Eok K) (law02_RijndaelVectors_Rok K) rfl (Orc.nil _ _ _) (by kernel_rfl) (fun _ _ => by kernel_rfl)
noncomputable def law02_RijndaelVectors_s1_se (K : Nat) : SE := stmtN [(3, .ptr), (5, .sl)] [(66, .bool)] [(42, 67)] (fun x w => law02_RijndaelVectors_s1 K x.1 x.2.1 w)
theorem law02_RijndaelVectors_s1_se_ok (K : Nat) (R : Rg) (h : subRB [(42, 67)] R = true) : (law02_RijndaelVectors_s1_se K).Ok prog R (cd (bodyOf f5) [1, 1, 1, 1, 1, 1, 1, 1, 1, 0, 0]) := stmtN_ok (Li := [(3, .ptr), (5, .sl)]) (Lo := [(66, .bool)]) (S := (fun x w => law02_RijndaelVectors_s1 K x.1 x.2.1 w)) (law02_RijndaelVectors_s1_ok K) (subR_of h)
theorem law02_RijndaelVectors_l2_ok (K : Nat) (n : Nat) : StmtNOk prog [(3, .ptr), (6, .addr), (7, .int .i64)] [] [(7, 8), (67, 76)] ((fun n x w => law02_RijndaelVectors_l2 K n x.1 x.2.1 x.2.2.1 w) n) (.block 0 (.loop (cd (bodyOf f5) [1, 1, 1, 1, 1, 1, 1, 1, 1, 1, 1, 0, 1, 0, 0]))) :=
    mk_loopN (O := tabL []) (root := (bodyOf f5)) (π := [1, 1, 1, 1, 1, 1, 1, 1, 1, 1, 1, 0, 1, 0, 0]) (id := 0) (Li := [(3, .ptr), (6, .addr), (7, .int .i64)]) (Lo := []) (S := (fun n x w => law02_RijndaelVectors_l2 K n x.1 x.2.1 x.2.2.1 w)) (body := cd (bodyOf f5) [1, 1, 1, 1, 1, 1, 1, 1, 1, 1, 1, 0, 1, 0, 0]) (law02_RijndaelVectors_Eok K) (law02_RijndaelVectors_Rok K) rfl (Orc.nil _ _ _) (by kernel_rfl) (fun _ _ => by kernel_rfl) (fun _ _ _ => by kernel_rfl) n
noncomputable def law02_RijndaelVectors_l2_se (K : Nat) : SE := stmtN [(3, .ptr), (6, .addr), (7, .int .i64)] [] [(7, 8), (67, 76)] (fun x w => law02_RijndaelVectors_l2 K K x.1 x.2.1 x.2.2.1 w)
theorem law02_RijndaelVectors_l2_se_ok (K : Nat) (R : Rg) (h : subRB [(7, 8), (67, 76)] R = true) : (law02_RijndaelVectors_l2_se K).Ok prog R (.block 0 (.loop (cd (bodyOf f5) [1, 1, 1, 1, 1, 1, 1, 1, 1, 1, 1, 0, 1, 0, 0]))) := stmtN_ok (Li := [(3, .ptr), (6, .addr), (7, .int .i64)]) (Lo := []) (S := (fun x w => law02_RijndaelVectors_l2 K K x.1 x.2.1 x.2.2.1 w)) (law02_RijndaelVectors_l2_ok K K) (subR_of h)
theorem law02_RijndaelVectors_s3_ok (K : Nat) : StmtNOk prog [(4, .int .i64), (8, .ptr)] [(88, .bool)] [(82, 89)] (fun x w => law02_RijndaelVectors_s3 K x.1 x.2.1 w) (cd (bodyOf f5) [1, 1, 1, 1, 1, 1, 1, 1, 1, 1, 1, 1, 1, 0, 0]) :=
    mk_stmtN (O := tabL []) (root := (bodyOf f5)) (π := [1, 1, 1, 1, 1, 1, 1, 1, 1, 1, 1, 1, 1, 0, 0]) (Li := [(4, .int .i64), (8, .ptr)]) (Lo := [(88, .bool)]) (S := (fun x w => law02_RijndaelVectors_s3 K x.1 x.2.1 w)) (law02_RijndaelVectors_Eok K) (law02_RijndaelVectors_Rok K) rfl (Orc.nil _ _ _) (by kernel_rfl) (fun _ _ => by kernel_rfl)
noncomputable def law02_RijndaelVectors_s3_se (K : Nat) : SE := stmtN [(4, .int .i64), (8, .ptr)] [(88, .bool)] [(82, 89)] (fun x w => law02_RijndaelVectors_s3 K x.1 x.2.1 w)
theorem law02_RijndaelVectors_s3_se_ok (K : Nat) (R : Rg) (h : subRB [(82, 89)] R = true) : (law02_RijndaelVectors_s3_se K).Ok prog R (cd (bodyOf f5) [1, 1, 1, 1, 1, 1, 1, 1, 1, 1, 1, 1, 1, 0, 0]) := stmtN_ok (Li := [(4, .int .i64), (8, .ptr)]) (Lo := [(88, .bool)]) (S := (fun x w => law02_RijndaelVectors_s3 K x.1 x.2.1 w)) (law02_RijndaelVectors_s3_ok K) (subR_of h)
theorem law02_RijndaelVectors_facts : FunFacts prog 5 f5 (bodyOf f5) [] [(0, 105)] := ⟨func5, by kernel_rfl, by kernel_rfl, by kernel_rfl, by kernel_rfl, by kernel_rfl⟩
theorem law02_RijndaelVectors_calls (K : Nat) (x : TT []) (w : World) (y : TR [.bool]) (w2 : World) (h : law02_RijndaelVectors K  w = some (y, w2)) : Calls prog 5 (encA [] x).toArray w (fun e w3 => e = .returned (resV (encR [.bool] y)) ∧ w3 = w2) :=
    mk_fun (O := tabL [([1, 1, 1, 1, 1, 1, 1, 0, 0], law02_RijndaelVectors_s0_se K), ([1, 1, 1, 1, 1, 1, 1, 1, 1, 0, 0], law02_RijndaelVectors_s1_se K), ([1, 1, 1, 1, 1, 1, 1, 1, 1, 1, 1, 0, 1], law02_RijndaelVectors_l2_se K), ([1, 1, 1, 1, 1, 1, 1, 1, 1, 1, 1, 1, 1, 0, 0], law02_RijndaelVectors_s3_se K)]) (Lp := []) (Rt := [.bool]) (S := (fun x w => law02_RijndaelVectors K  w)) (law02_RijndaelVectors_Eok K) (law02_RijndaelVectors_Rok K) rfl law02_RijndaelVectors_facts (Orc.cons (by kernel_rfl) (law02_RijndaelVectors_s0_se_ok K [(0, 105)] (by kernel_rfl)) (Orc.cons (by kernel_rfl) (law02_RijndaelVectors_s1_se_ok K [(0, 105)] (by kernel_rfl)) (Orc.cons (by kernel_rfl) (law02_RijndaelVectors_l2_se_ok K [(0, 105)] (by kernel_rfl)) (Orc.cons (by kernel_rfl) (law02_RijndaelVectors_s3_se_ok K [(0, 105)] (by kernel_rfl)) (Orc.nil _ _ _))))) (fun _ _ => by kernel_rfl) x w y w2 h
noncomputable def law02_RijndaelVectors_ce (K : Nat) : CE := funE [] [.bool] (fun x w => law02_RijndaelVectors K  w)
theorem law02_RijndaelVectors_ok (K : Nat) : (law02_RijndaelVectors_ce K).Ok prog 5 := funE_ok (Rt := [.bool]) (S := (fun x w => law02_RijndaelVectors K  w)) law02_RijndaelVectors_facts fun x w y w2 h => law02_RijndaelVectors_calls K x w y w2 h

noncomputable def rijndael_Stream_Skip_E : List (Nat × CE) := [(49, rijndael_Stream_further_ce)]
theorem rijndael_Stream_Skip_Eok : Env.Ok prog (tab (rijndael_Stream_Skip_E)) := (Env.cons (rijndael_Stream_further_ok) (Env.nil _))
noncomputable def rijndael_Stream_Skip_R : List (Nat × RE) := []
theorem rijndael_Stream_Skip_Rok : REnv.Ok prog (tab (rijndael_Stream_Skip_R)) := (REnv.nil _)
/-- (*coffer/rijndael.Stream).Skip -/
noncomputable def rijndael_Stream_Skip (s0 : Option Addr) (n1 : Int) (w : World) : Option ((Int × Unit) × World) :=
  bnd (rijndael_Stream_further s0 n1 w) fun r_1 w_2 =>
  if (r_1.2.1 != 0) = true then (some ((r_1.2.1, ()), w_2)) else ((s0).bind fun p_3 =>
  (ldI .u64 (p_3.add 17) w_2).bind fun v_4 =>
  (s0).bind fun p_5 =>
  (stC (p_5.add 17) (.int .u64 (IntKind.u64.wrap (v_4 + n1))) w_2).bind fun w_6 =>
  some ((0, ()), w_6))
theorem rijndael_Stream_Skip_facts : FunFacts prog 33 f33 (bodyOf f33) [(0, .ptr), (1, .int .u64)] [(0, 24)] := ⟨func33, by kernel_rfl, by kernel_rfl, by kernel_rfl, by kernel_rfl, by kernel_rfl⟩
theorem rijndael_Stream_Skip_calls (x : TT [(0, .ptr), (1, .int .u64)]) (w : World) (y : TR [.int .i64]) (w2 : World) (h : rijndael_Stream_Skip x.1 x.2.1 w = some (y, w2)) : Calls prog 33 (encA [(0, .ptr), (1, .int .u64)] x).toArray w (fun e w3 => e = .returned (resV (encR [.int .i64] y)) ∧ w3 = w2) :=
    mk_fun (O := tabL []) (Lp := [(0, .ptr), (1, .int .u64)]) (Rt := [.int .i64]) (S := (fun x w => rijndael_Stream_Skip x.1 x.2.1 w)) (rijndael_Stream_Skip_Eok) (rijndael_Stream_Skip_Rok) rfl rijndael_Stream_Skip_facts (Orc.nil _ _ _) (fun _ _ => by kernel_rfl) x w y w2 h
noncomputable def rijndael_Stream_Skip_ce : CE := funE [(0, .ptr), (1, .int .u64)] [.int .i64] (fun x w => rijndael_Stream_Skip x.1 x.2.1 w)
theorem rijndael_Stream_Skip_ok : (rijndael_Stream_Skip_ce).Ok prog 33 := funE_ok (Rt := [.int .i64]) (S := (fun x w => rijndael_Stream_Skip x.1 x.2.1 w)) rijndael_Stream_Skip_facts fun x w y w2 h => rijndael_Stream_Skip_calls x w y w2 h

noncomputable def rijndael_Stream_At_R : List (Nat × RE) := []
theorem rijndael_Stream_At_Rok : REnv.Ok prog (tab (rijndael_Stream_At_R)) := (REnv.nil _)
/-- (*coffer/rijndael.Stream).At -/
noncomputable def rijndael_Stream_At (s0 : Option Addr) (w : World) : Option (Int × Unit) :=
  if s0.isNone = true then (some (0, ())) else ((s0).bind fun p_1 =>
  (ldI .u64 (p_1.add 17) w).bind fun v_2 =>
  some (v_2, ()))
theorem rijndael_Stream_At_facts : FunFacts prog 34 f34 (bodyOf f34) [(0, .ptr)] [(0, 9)] := ⟨func34, by kernel_rfl, by kernel_rfl, by kernel_rfl, by kernel_rfl, by kernel_rfl⟩
theorem rijndael_Stream_At_calls (x : TT [(0, .ptr)]) (w : World) (y : TR [.int .u64]) (h : rijndael_Stream_At x.1 w = some y) : Calls prog 34 (encA [(0, .ptr)] x).toArray w (fun e w3 => e = .returned (resV (encR [.int .u64] y)) ∧ w3 = w) :=
    mk_funQ (O := tabL []) (Lp := [(0, .ptr)]) (Rt := [.int .u64]) (S := (fun x w => rijndael_Stream_At x.1 w)) (rijndael_Stream_At_Rok) rijndael_Stream_At_facts (OrcQ.nil _ _ _) (fun _ _ => by kernel_rfl) x w y h
noncomputable def rijndael_Stream_At_re : RE := funR [(0, .ptr)] [.int .u64] (fun x w => rijndael_Stream_At x.1 w)
theorem rijndael_Stream_At_ok : (rijndael_Stream_At_re).Ok prog 34 := funR_ok (Rt := [.int .u64]) (S := (fun x w => rijndael_Stream_At x.1 w)) rijndael_Stream_At_facts fun x w y h => rijndael_Stream_At_calls x w y h

end Go.Sh
