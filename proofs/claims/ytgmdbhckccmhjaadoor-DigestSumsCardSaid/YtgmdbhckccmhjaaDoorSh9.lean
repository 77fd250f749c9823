/- What functions of the program do, as Lean functions; that the machine does just that. Printed by shal.py, a program of this claim's writer. -/
import Derived.Test.YtgmdbhckccmhjaaDoorSh8
set_option maxRecDepth 100000
set_option linter.unusedVariables false
namespace Go.Sh
open Go.Fw Go.Proofs.Tryd

noncomputable def law01_walk_E (K : Nat) : List (Nat × CE) := [(79, law01_three_plays_ce K), (27, book_SameBytes_ce K), (29, book_SpoilBytes_ce K)]
theorem law01_walk_Eok (K : Nat) : Env.Ok prog (tab (law01_walk_E K)) := (Env.cons (law01_three_plays_ok K) (Env.cons (book_SameBytes_ok K) (Env.cons (book_SpoilBytes_ok K) (Env.nil _))))
noncomputable def law01_walk_R (K : Nat) : List (Nat × RE) := []
theorem law01_walk_Rok (K : Nat) : REnv.Ok prog (tab (law01_walk_R K)) := (REnv.nil _)
noncomputable def law01_walk_s1 (K : Nat) (script0 : Sl) (i6 : Int) (w : World) : Option ((Bool × Unit) × World) :=
  if (decide (i6 < ((script0.len : Nat) : Int))) = true then (some (((decide (i6 < 40)), ()), w)) else (some ((false, ()), w))
noncomputable def law01_walk_l0_b (K : Nat) (rec : Sl → Bool → Addr → Int → World → Option ((Out (Unit) (Bool × Unit)) × World)) (script0 : Sl) (macs1 : Bool) (t5 : Addr) (i6 : Int) (w : World) : Option ((Out (Unit) (Bool × Unit)) × World) :=
  bnd (law01_walk_s1 K script0 i6 w) fun y_4 w_5 =>
  if y_4.1 = true then ((script0.a).bind fun p_6 =>
  if (0 : Int) ≤ i6 ∧ i6 < ((script0.len : Nat) : Int) then ((ldA 6 (p_6.add ((Int.toNat i6) * 6)) w_5).bind fun v_7 =>
  bnd (law01_three_plays K (some t5) v_7 macs1 w_5) fun r_8 w_9 =>
  if (!r_8.1) = true then (some (.ret (false, ()), w_9)) else (rec script0 macs1 t5 (IntKind.i64.wrap (i6 + 1)) w_9)) else none) else (some (.norm (), w_5))
noncomputable def law01_walk_l0 (K : Nat) (n : Nat) : Sl → Bool → Addr → Int → World → Option ((Out (Unit) (Bool × Unit)) × World) := iter (fun _ _ _ _ _ => none) (law01_walk_l0_b K) n
noncomputable def law01_walk_l2_b (K : Nat) (rec : Bool → Addr → Int → World → Option ((Out (Unit) (Bool × Unit)) × World)) (macs1 : Bool) (t5 : Addr) (i7 : Int) (w : World) : Option ((Out (Unit) (Bool × Unit)) × World) :=
  if (decide (i7 < 3)) = true then ((prog.built 120 [(0, (.int .i64 3)), (1, (.int .i64 i7))]).bind fun cs_13 =>
  bnd (law01_three_plays K (some t5) cs_13 macs1 w) fun r_14 w_15 =>
  if (!r_14.1) = true then (some (.ret (false, ()), w_15)) else ((prog.built 120 [(0, (.int .i64 6)), (1, (.int .i64 i7))]).bind fun cs_16 =>
  bnd (law01_three_plays K (some t5) cs_16 macs1 w_15) fun r_17 w_18 =>
  if (!r_17.1) = true then (some (.ret (false, ()), w_18)) else (rec macs1 t5 (IntKind.i64.wrap (i7 + 1)) w_18))) else (some (.norm (), w))
noncomputable def law01_walk_l2 (K : Nat) (n : Nat) : Bool → Addr → Int → World → Option ((Out (Unit) (Bool × Unit)) × World) := iter (fun _ _ _ _ => none) (law01_walk_l2_b K) n
noncomputable def law01_walk_l4_b (K : Nat) (rec : Addr → Int → Int → World → Option ((Out (Unit) (Bool × Unit)) × World)) (t5 : Addr) (i8 : Int) (k9 : Int) (w : World) : Option ((Out (Unit) (Bool × Unit)) × World) :=
  (ldS (t5.add 18) w).bind fun v_36 =>
  if (decide (k9 < ((v_36.len : Nat) : Int))) = true then ((ldS (t5.add 18) w.drew).bind fun v_37 =>
  (v_37.a).bind fun p_38 =>
  if (0 : Int) ≤ k9 ∧ k9 < ((v_37.len : Nat) : Int) then ((ldS (p_38.add ((Int.toNat k9) * 1)) w.drew).bind fun v_39 =>
  (ldS (t5.add 19) w.drew).bind fun v_40 =>
  (v_40.a).bind fun p_41 =>
  if (0 : Int) ≤ k9 ∧ k9 < ((v_40.len : Nat) : Int) then ((ldS (p_41.add ((Int.toNat k9) * 1)) w.drew).bind fun v_42 =>
  bnd (book_SameBytes K v_39 v_42 w.drew) fun r_43 w_44 =>
  if (!r_43.1) = true then (some (.ret (false, ()), w_44)) else (rec t5 i8 (IntKind.i64.wrap (k9 + 1)) w_44)) else none) else none) else (some (.norm (), w))
noncomputable def law01_walk_l4 (K : Nat) (n : Nat) : Addr → Int → Int → World → Option ((Out (Unit) (Bool × Unit)) × World) := iter (fun _ _ _ _ => none) (law01_walk_l4_b K) n
noncomputable def law01_walk_l3_b (K : Nat) (rec : Addr → Int → World → Option ((Out (Unit) (Bool × Unit)) × World)) (t5 : Addr) (i8 : Int) (w : World) : Option ((Out (Unit) (Bool × Unit)) × World) :=
  (ldS (t5.add 18) w).bind fun v_22 =>
  if (decide (i8 < ((v_22.len : Nat) : Int))) = true then ((ldS (t5.add 18) w.drew).bind fun v_23 =>
  (v_23.a).bind fun p_24 =>
  if (0 : Int) ≤ i8 ∧ i8 < ((v_23.len : Nat) : Int) then ((ldS (p_24.add ((Int.toNat i8) * 1)) w.drew).bind fun v_25 =>
  (ldS (t5.add 19) w.drew).bind fun v_26 =>
  (v_26.a).bind fun p_27 =>
  if (0 : Int) ≤ i8 ∧ i8 < ((v_26.len : Nat) : Int) then ((ldS (p_27.add ((Int.toNat i8) * 1)) w.drew).bind fun v_28 =>
  bnd (book_SameBytes K v_25 v_28 w.drew) fun r_29 w_30 =>
  if (!r_29.1) = true then (some (.ret (false, ()), w_30)) else ((ldS (t5.add 18) w_30).bind fun v_31 =>
  (v_31.a).bind fun p_32 =>
  if (0 : Int) ≤ i8 ∧ i8 < ((v_31.len : Nat) : Int) then ((ldS (p_32.add ((Int.toNat i8) * 1)) w_30).bind fun v_33 =>
  bnd (book_SpoilBytes K v_33 w_30) fun r_34 w_35 =>
  bnd (law01_walk_l4 K K t5 i8 (IntKind.i64.wrap (i8 + 1)) w_35) fun y_45 w_46 =>
  (match y_45 with
  | .norm z_47n => (rec t5 (IntKind.i64.wrap (i8 + 1)) w_46)
  | .ret z_47r => (some (.ret (z_47r.1, ()), w_46)))) else none)) else none) else none) else (some (.norm (), w))
noncomputable def law01_walk_l3 (K : Nat) (n : Nat) : Addr → Int → World → Option ((Out (Unit) (Bool × Unit)) × World) := iter (fun _ _ _ => none) (law01_walk_l3_b K) n
/-- coffer/cofferlaw01.walk -/
noncomputable def law01_walk (K : Nat) (script0 : Sl) (macs1 : Bool) (w : World) : Option ((Bool × Unit) × World) :=
  (prog.built 117 [(5, (.int .i64 65536))]).bind fun cs_1 =>
  bnd (newB cs_1 117 w) fun p_2 w_3 =>
  bnd (law01_walk_l0 K K script0 macs1 p_2 0 w_3) fun y_10 w_11 =>
  (match y_10 with
  | .norm z_12n => (bnd (law01_walk_l2 K K macs1 p_2 0 w_11) fun y_19 w_20 =>
  (match y_19 with
  | .norm z_21n => (bnd (law01_walk_l3 K K p_2 0 w_20) fun y_48 w_49 =>
  (match y_48 with
  | .norm z_50n => (some ((true, ()), w_49))
  | .ret z_50r => (some ((z_50r.1, ()), w_49))))
  | .ret z_21r => (some ((z_21r.1, ()), w_20))))
  | .ret z_12r => (some ((z_12r.1, ()), w_11)))
theorem law01_walk_s1_ok (K : Nat) : StmtNOk prog [(0, .sl), (6, .int .i64)] [(19, .bool)] [(12, 20)] (fun x w => law01_walk_s1 K x.1 x.2.1 w) (cd (bodyOf f58) [1, 1, 0, 1, 0, 0, 0, 0]) :=
    mk_stmtN (O := tabL []) (root := (bodyOf f58)) (π := [1, 1, 0, 1, 0, 0, 0, 0]) (Li := [(0, .sl), (6, .int .i64)]) (Lo := [(19, .bool)]) (S := (fun x w => law01_walk_s1 K x.1 x.2.1 w)) (law01_walk_Eok K) (law01_walk_Rok K) rfl (Orc.nil _ _ _) (by kernel_rfl) (fun _ _ => by kernel_rfl)
noncomputable def law01_walk_s1_se (K : Nat) : SE := stmtN [(0, .sl), (6, .int .i64)] [(19, .bool)] [(12, 20)] (fun x w => law01_walk_s1 K x.1 x.2.1 w)
theorem law01_walk_s1_se_ok (K : Nat) (R : Rg) (h : subRB [(12, 20)] R = true) : (law01_walk_s1_se K).Ok prog R (cd (bodyOf f58) [1, 1, 0, 1, 0, 0, 0, 0]) := stmtN_ok (Li := [(0, .sl), (6, .int .i64)]) (Lo := [(19, .bool)]) (S := (fun x w => law01_walk_s1 K x.1 x.2.1 w)) (law01_walk_s1_ok K) (subR_of h)
theorem law01_walk_l0_ok (K : Nat) (n : Nat) : StmtOk prog [(0, .sl), (1, .bool), (5, .addr), (6, .int .i64)] [] [(4, .bool)] [(4, 5), (6, 7), (12, 30)] ((fun n x w => law01_walk_l0 K n x.1 x.2.1 x.2.2.1 x.2.2.2.1 w) n) (.block 0 (.loop (cd (bodyOf f58) [1, 1, 0, 1, 0, 0]))) :=
    mk_loop (O := tabL [([1, 1, 0, 1, 0, 0, 0, 0], law01_walk_s1_se K)]) (root := (bodyOf f58)) (π := [1, 1, 0, 1, 0, 0]) (id := 0) (Li := [(0, .sl), (1, .bool), (5, .addr), (6, .int .i64)]) (Lo := []) (Lr := [(4, .bool)]) (S := (fun n x w => law01_walk_l0 K n x.1 x.2.1 x.2.2.1 x.2.2.2.1 w)) (body := cd (bodyOf f58) [1, 1, 0, 1, 0, 0]) (law01_walk_Eok K) (law01_walk_Rok K) rfl (Orc.cons (by kernel_rfl) (law01_walk_s1_se_ok K [(4, 5), (6, 7), (12, 30)] (by kernel_rfl)) (Orc.nil _ _ _)) (by kernel_rfl) (fun _ _ => by kernel_rfl) (fun _ _ _ => by kernel_rfl) n
noncomputable def law01_walk_l0_se (K : Nat) : SE := stmt [(0, .sl), (1, .bool), (5, .addr), (6, .int .i64)] [] [(4, .bool)] [(4, 5), (6, 7), (12, 30)] (fun x w => law01_walk_l0 K K x.1 x.2.1 x.2.2.1 x.2.2.2.1 w)
theorem law01_walk_l0_se_ok (K : Nat) (R : Rg) (h : subRB [(4, 5), (6, 7), (12, 30)] R = true) : (law01_walk_l0_se K).Ok prog R (.block 0 (.loop (cd (bodyOf f58) [1, 1, 0, 1, 0, 0]))) := stmt_ok (Li := [(0, .sl), (1, .bool), (5, .addr), (6, .int .i64)]) (Lo := []) (Lr := [(4, .bool)]) (S := (fun x w => law01_walk_l0 K K x.1 x.2.1 x.2.2.1 x.2.2.2.1 w)) (law01_walk_l0_ok K K) (subR_of h)
theorem law01_walk_l2_ok (K : Nat) (n : Nat) : StmtOk prog [(1, .bool), (5, .addr), (7, .int .i64)] [] [(4, .bool)] [(4, 5), (7, 8), (30, 48)] ((fun n x w => law01_walk_l2 K n x.1 x.2.1 x.2.2.1 w) n) (.block 2 (.loop (cd (bodyOf f58) [1, 1, 1, 0, 1, 0, 0]))) :=
    mk_loop (O := tabL []) (root := (bodyOf f58)) (π := [1, 1, 1, 0, 1, 0, 0]) (id := 2) (Li := [(1, .bool), (5, .addr), (7, .int .i64)]) (Lo := []) (Lr := [(4, .bool)]) (S := (fun n x w => law01_walk_l2 K n x.1 x.2.1 x.2.2.1 w)) (body := cd (bodyOf f58) [1, 1, 1, 0, 1, 0, 0]) (law01_walk_Eok K) (law01_walk_Rok K) rfl (Orc.nil _ _ _) (by kernel_rfl) (fun _ _ => by kernel_rfl) (fun _ _ _ => by kernel_rfl) n
noncomputable def law01_walk_l2_se (K : Nat) : SE := stmt [(1, .bool), (5, .addr), (7, .int .i64)] [] [(4, .bool)] [(4, 5), (7, 8), (30, 48)] (fun x w => law01_walk_l2 K K x.1 x.2.1 x.2.2.1 w)
theorem law01_walk_l2_se_ok (K : Nat) (R : Rg) (h : subRB [(4, 5), (7, 8), (30, 48)] R = true) : (law01_walk_l2_se K).Ok prog R (.block 2 (.loop (cd (bodyOf f58) [1, 1, 1, 0, 1, 0, 0]))) := stmt_ok (Li := [(1, .bool), (5, .addr), (7, .int .i64)]) (Lo := []) (Lr := [(4, .bool)]) (S := (fun x w => law01_walk_l2 K K x.1 x.2.1 x.2.2.1 w)) (law01_walk_l2_ok K K) (subR_of h)
theorem law01_walk_l4_ok (K : Nat) (n : Nat) : StmtOk prog [(5, .addr), (8, .int .i64), (9, .int .i64)] [] [(4, .bool)] [(4, 5), (9, 10), (83, 108)] ((fun n x w => law01_walk_l4 K n x.1 x.2.1 x.2.2.1 w) n) (.block 6 (.loop (cd (bodyOf f58) [1, 1, 1, 1, 0, 1, 0, 0, 1, 0, 0, 1, 1, 1, 0, 0]))) :=
    mk_loop (O := tabL []) (root := (bodyOf f58)) (π := [1, 1, 1, 1, 0, 1, 0, 0, 1, 0, 0, 1, 1, 1, 0, 0]) (id := 6) (Li := [(5, .addr), (8, .int .i64), (9, .int .i64)]) (Lo := []) (Lr := [(4, .bool)]) (S := (fun n x w => law01_walk_l4 K n x.1 x.2.1 x.2.2.1 w)) (body := cd (bodyOf f58) [1, 1, 1, 1, 0, 1, 0, 0, 1, 0, 0, 1, 1, 1, 0, 0]) (law01_walk_Eok K) (law01_walk_Rok K) rfl (Orc.nil _ _ _) (by kernel_rfl) (fun _ _ => by kernel_rfl) (fun _ _ _ => by kernel_rfl) n
noncomputable def law01_walk_l4_se (K : Nat) : SE := stmt [(5, .addr), (8, .int .i64), (9, .int .i64)] [] [(4, .bool)] [(4, 5), (9, 10), (83, 108)] (fun x w => law01_walk_l4 K K x.1 x.2.1 x.2.2.1 w)
theorem law01_walk_l4_se_ok (K : Nat) (R : Rg) (h : subRB [(4, 5), (9, 10), (83, 108)] R = true) : (law01_walk_l4_se K).Ok prog R (.block 6 (.loop (cd (bodyOf f58) [1, 1, 1, 1, 0, 1, 0, 0, 1, 0, 0, 1, 1, 1, 0, 0]))) := stmt_ok (Li := [(5, .addr), (8, .int .i64), (9, .int .i64)]) (Lo := []) (Lr := [(4, .bool)]) (S := (fun x w => law01_walk_l4 K K x.1 x.2.1 x.2.2.1 w)) (law01_walk_l4_ok K K) (subR_of h)
theorem law01_walk_l3_ok (K : Nat) (n : Nat) : StmtOk prog [(5, .addr), (8, .int .i64)] [] [(4, .bool)] [(4, 5), (8, 10), (48, 108)] ((fun n x w => law01_walk_l3 K n x.1 x.2.1 w) n) (.block 4 (.loop (cd (bodyOf f58) [1, 1, 1, 1, 0, 1, 0, 0]))) :=
    mk_loop (O := tabL [([1, 1, 1, 1, 0, 1, 0, 0, 1, 0, 0, 1, 1, 1], law01_walk_l4_se K)]) (root := (bodyOf f58)) (π := [1, 1, 1, 1, 0, 1, 0, 0]) (id := 4) (Li := [(5, .addr), (8, .int .i64)]) (Lo := []) (Lr := [(4, .bool)]) (S := (fun n x w => law01_walk_l3 K n x.1 x.2.1 w)) (body := cd (bodyOf f58) [1, 1, 1, 1, 0, 1, 0, 0]) (law01_walk_Eok K) (law01_walk_Rok K) rfl (Orc.cons (by kernel_rfl) (law01_walk_l4_se_ok K [(4, 5), (8, 10), (48, 108)] (by kernel_rfl)) (Orc.nil _ _ _)) (by kernel_rfl) (fun _ _ => by kernel_rfl) (fun _ _ _ => by kernel_rfl) n
noncomputable def law01_walk_l3_se (K : Nat) : SE := stmt [(5, .addr), (8, .int .i64)] [] [(4, .bool)] [(4, 5), (8, 10), (48, 108)] (fun x w => law01_walk_l3 K K x.1 x.2.1 w)
theorem law01_walk_l3_se_ok (K : Nat) (R : Rg) (h : subRB [(4, 5), (8, 10), (48, 108)] R = true) : (law01_walk_l3_se K).Ok prog R (.block 4 (.loop (cd (bodyOf f58) [1, 1, 1, 1, 0, 1, 0, 0]))) := stmt_ok (Li := [(5, .addr), (8, .int .i64)]) (Lo := []) (Lr := [(4, .bool)]) (S := (fun x w => law01_walk_l3 K K x.1 x.2.1 w)) (law01_walk_l3_ok K K) (subR_of h)
theorem law01_walk_facts : FunFacts prog 58 f58 (bodyOf f58) [(0, .sl), (1, .bool)] [(0, 108)] := ⟨func58, by kernel_rfl, by kernel_rfl, by kernel_rfl, by kernel_rfl, by kernel_rfl⟩
theorem law01_walk_calls (K : Nat) (x : TT [(0, .sl), (1, .bool)]) (w : World) (y : TR [.bool]) (w2 : World) (h : law01_walk K x.1 x.2.1 w = some (y, w2)) : Calls prog 58 (encA [(0, .sl), (1, .bool)] x).toArray w (fun e w3 => e = .returned (resV (encR [.bool] y)) ∧ w3 = w2) :=
    mk_fun (O := tabL [([1, 1, 0, 1], law01_walk_l0_se K), ([1, 1, 0, 1, 0, 0, 0, 0], law01_walk_s1_se K), ([1, 1, 1, 0, 1], law01_walk_l2_se K), ([1, 1, 1, 1, 0, 1], law01_walk_l3_se K), ([1, 1, 1, 1, 0, 1, 0, 0, 1, 0, 0, 1, 1, 1], law01_walk_l4_se K)]) (Lp := [(0, .sl), (1, .bool)]) (Rt := [.bool]) (S := (fun x w => law01_walk K x.1 x.2.1 w)) (law01_walk_Eok K) (law01_walk_Rok K) rfl law01_walk_facts (Orc.cons (by kernel_rfl) (law01_walk_l0_se_ok K [(0, 108)] (by kernel_rfl)) (Orc.cons (by kernel_rfl) (law01_walk_s1_se_ok K [(0, 108)] (by kernel_rfl)) (Orc.cons (by kernel_rfl) (law01_walk_l2_se_ok K [(0, 108)] (by kernel_rfl)) (Orc.cons (by kernel_rfl) (law01_walk_l3_se_ok K [(0, 108)] (by kernel_rfl)) (Orc.cons (by kernel_rfl) (law01_walk_l4_se_ok K [(0, 108)] (by kernel_rfl)) (Orc.nil _ _ _)))))) (fun _ _ => by kernel_rfl) x w y w2 h
noncomputable def law01_walk_ce (K : Nat) : CE := funE [(0, .sl), (1, .bool)] [.bool] (fun x w => law01_walk K x.1 x.2.1 w)
theorem law01_walk_ok (K : Nat) : (law01_walk_ce K).Ok prog 58 := funE_ok (Rt := [.bool]) (S := (fun x w => law01_walk K x.1 x.2.1 w)) law01_walk_facts fun x w y w2 h => law01_walk_calls K x w y w2 h

noncomputable def law01_DigestStreams_E (K : Nat) : List (Nat × CE) := [(40, digest_New_ce K), (58, law01_walk_ce K)]
theorem law01_DigestStreams_Eok (K : Nat) : Env.Ok prog (tab (law01_DigestStreams_E K)) := (Env.cons (digest_New_ok K) (Env.cons (law01_walk_ok K) (Env.nil _)))
noncomputable def law01_DigestStreams_R (K : Nat) : List (Nat × RE) := [(26, law01_num_re), (55, digest_Stream_Size_re)]
theorem law01_DigestStreams_Rok (K : Nat) : REnv.Ok prog (tab (law01_DigestStreams_R K)) := (REnv.cons (law01_num_ok) (REnv.cons (digest_Stream_Size_ok) (REnv.nil _)))
/-- coffer/cofferlaw01.DigestStreams -/
noncomputable def law01_DigestStreams (K : Nat) (script0 : Sl) (w : World) : Option ((Bool × Unit) × World) :=
  bnd (digest_New K 256 w) fun r_1 w_2 =>
  (law01_num r_1.2.1).bind fun r_3 =>
  if (r_3.1 != 0) = true then (some ((false, ()), w_2)) else (if r_1.1.isNone = true then (some ((false, ()), w_2)) else ((digest_Stream_Size r_1.1 w_2).bind fun r_4 =>
  if (r_4.1 != 32) = true then (some ((false, ()), w_2)) else (bnd (law01_walk K script0 false w_2) fun r_5 w_6 =>
  some ((r_5.1, ()), w_6))))
theorem law01_DigestStreams_facts : FunFacts prog 14 f14 (bodyOf f14) [(0, .sl)] [(0, 23)] := ⟨func14, by kernel_rfl, by kernel_rfl, by kernel_rfl, by kernel_rfl, by kernel_rfl⟩
theorem law01_DigestStreams_calls (K : Nat) (x : TT [(0, .sl)]) (w : World) (y : TR [.bool]) (w2 : World) (h : law01_DigestStreams K x.1 w = some (y, w2)) : Calls prog 14 (encA [(0, .sl)] x).toArray w (fun e w3 => e = .returned (resV (encR [.bool] y)) ∧ w3 = w2) :=
    mk_fun (O := tabL []) (Lp := [(0, .sl)]) (Rt := [.bool]) (S := (fun x w => law01_DigestStreams K x.1 w)) (law01_DigestStreams_Eok K) (law01_DigestStreams_Rok K) rfl law01_DigestStreams_facts (Orc.nil _ _ _) (fun _ _ => by kernel_rfl) x w y w2 h
noncomputable def law01_DigestStreams_ce (K : Nat) : CE := funE [(0, .sl)] [.bool] (fun x w => law01_DigestStreams K x.1 w)
theorem law01_DigestStreams_ok (K : Nat) : (law01_DigestStreams_ce K).Ok prog 14 := funE_ok (Rt := [.bool]) (S := (fun x w => law01_DigestStreams K x.1 w)) law01_DigestStreams_facts fun x w y w2 h => law01_DigestStreams_calls K x w y w2 h

noncomputable def law01_DigestMacs_E (K : Nat) : List (Nat × CE) := [(41, digest_NewMac_ce K), (58, law01_walk_ce K)]
theorem law01_DigestMacs_Eok (K : Nat) : Env.Ok prog (tab (law01_DigestMacs_E K)) := (Env.cons (digest_NewMac_ok K) (Env.cons (law01_walk_ok K) (Env.nil _)))
noncomputable def law01_DigestMacs_R (K : Nat) : List (Nat × RE) := [(26, law01_num_re), (57, digest_Mac_Size_re)]
theorem law01_DigestMacs_Rok (K : Nat) : REnv.Ok prog (tab (law01_DigestMacs_R K)) := (REnv.cons (law01_num_ok) (REnv.cons (digest_Mac_Size_ok) (REnv.nil _)))
/-- coffer/cofferlaw01.DigestMacs -/
noncomputable def law01_DigestMacs (K : Nat) (script0 : Sl) (w : World) : Option ((Bool × Unit) × World) :=
  bnd (bldS prog 25 1 #[(0, (.int .u8 1))] w) fun s_1 w_2 =>
  bnd (digest_NewMac K 256 s_1 w_2) fun r_3 w_4 =>
  (law01_num r_3.2.1).bind fun r_5 =>
  if (r_5.1 != 0) = true then (some ((false, ()), w_4)) else (if r_3.1.isNone = true then (some ((false, ()), w_4)) else ((digest_Mac_Size r_3.1 w_4).bind fun r_6 =>
  if (r_6.1 != 32) = true then (some ((false, ()), w_4)) else (bnd (law01_walk K script0 true w_4) fun r_7 w_8 =>
  some ((r_7.1, ()), w_8))))
theorem law01_DigestMacs_facts : FunFacts prog 15 f15 (bodyOf f15) [(0, .sl)] [(0, 24)] := ⟨func15, by kernel_rfl, by kernel_rfl, by kernel_rfl, by kernel_rfl, by kernel_rfl⟩
theorem law01_DigestMacs_calls (K : Nat) (x : TT [(0, .sl)]) (w : World) (y : TR [.bool]) (w2 : World) (h : law01_DigestMacs K x.1 w = some (y, w2)) : Calls prog 15 (encA [(0, .sl)] x).toArray w (fun e w3 => e = .returned (resV (encR [.bool] y)) ∧ w3 = w2) :=
    mk_fun (O := tabL []) (Lp := [(0, .sl)]) (Rt := [.bool]) (S := (fun x w => law01_DigestMacs K x.1 w)) (law01_DigestMacs_Eok K) (law01_DigestMacs_Rok K) rfl law01_DigestMacs_facts (Orc.nil _ _ _) (fun _ _ => by kernel_rfl) x w y w2 h
noncomputable def law01_DigestMacs_ce (K : Nat) : CE := funE [(0, .sl)] [.bool] (fun x w => law01_DigestMacs K x.1 w)
theorem law01_DigestMacs_ok (K : Nat) : (law01_DigestMacs_ce K).Ok prog 15 := funE_ok (Rt := [.bool]) (S := (fun x w => law01_DigestMacs K x.1 w)) law01_DigestMacs_facts fun x w y w2 h => law01_DigestMacs_calls K x w y w2 h

end Go.Sh
