/- Texts of this claim, put together: Sh6, Sh7 -/
import Derived.Test.YtfilmbfijaeclaaDoorAllShamnoll
/- What functions of the program do, as Lean functions; that the machine does just that. Printed by shal.py, a program of this claim's writer. -/
set_option maxRecDepth 100000
set_option linter.unusedVariables false
namespace Go.Sh
open Go.Fw Go.Proofs.Tryd

noncomputable def law02_RijndaelPieces_E (K : Nat) : List (Nat × CE) := [(5, law02_RijndaelVectors_ce K), (10, rijndael_New_ce K), (29, rijndael_Key_Stream_ce), (30, rijndael_Stream_XOR_ce K), (33, rijndael_Stream_Skip_ce), (31, book_SameBytes_ce K)]
theorem law02_RijndaelPieces_Eok (K : Nat) : Env.Ok prog (tab (law02_RijndaelPieces_E K)) := (Env.cons (law02_RijndaelVectors_ok K) (Env.cons (rijndael_New_ok K) (Env.cons (rijndael_Key_Stream_ok) (Env.cons (rijndael_Stream_XOR_ok K) (Env.cons (rijndael_Stream_Skip_ok) (Env.cons (book_SameBytes_ok K) (Env.nil _)))))))
noncomputable def law02_RijndaelPieces_R (K : Nat) : List (Nat × RE) := [(12, law02_num_re), (34, rijndael_Stream_At_re)]
theorem law02_RijndaelPieces_Rok (K : Nat) : REnv.Ok prog (tab (law02_RijndaelPieces_R K)) := (REnv.cons (law02_num_ok) (REnv.cons (rijndael_Stream_At_ok) (REnv.nil _)))
noncomputable def law02_RijndaelPieces_s0 (K : Nat) (whole13 : Sl) (e14 : Int) (w : World) : Option ((Bool × Unit) × World) :=
  (law02_num e14).bind fun r_17 =>
  if (r_17.1 != 0) = true then (some ((true, ()), w)) else (some (((((whole13.len : Nat) : Int) != 600), ()), w))
noncomputable def law02_RijndaelPieces_s2 (K : Nat) (cuts2 : Sl) (from15 : Int) (i16 : Int) (w : World) : Option ((Bool × Unit) × World) :=
  if (decide (i16 < ((cuts2.len : Nat) : Int))) = true then (if (decide (i16 < 40)) = true then (some (((decide (from15 < 600)), ()), w)) else (some ((false, ()), w))) else (some ((false, ()), w))
noncomputable def law02_RijndaelPieces_s3 (K : Nat) (n17 : Int) (a78 : Bool) (w : World) : Option ((Int × Unit) × World) :=
  if a78 = true then (some (((IntKind.i64.wrap (0 - n17)), ()), w)) else (some ((n17, ()), w))
noncomputable def law02_RijndaelPieces_s4 (K : Nat) (whole13 : Sl) (from15 : Int) (n17 : Int) (b18 : Sl) (e19 : Int) (w : World) : Option ((Bool × Unit) × World) :=
  (law02_num e19).bind fun r_35 =>
  if (r_35.1 != 0) = true then (some ((true, ()), w)) else (if (0 : Int) ≤ (IntKind.i64.wrap (from15 + n17)) ∧ (IntKind.i64.wrap (from15 + n17)) ≤ ((whole13.cap : Nat) : Int) then (if (0 : Int) ≤ from15 ∧ from15 ≤ (((Int.toNat ((IntKind.i64.wrap (from15 + n17)))) : Nat) : Int) then (bnd (book_SameBytes K b18 ⟨(sla whole13.a (Int.toNat (from15)) whole13.cap 1), ((Int.toNat ((IntKind.i64.wrap (from15 + n17)))) - (Int.toNat (from15))), (whole13.cap - (Int.toNat (from15)))⟩ w) fun r_36 w_37 =>
  some (((!r_36.1), ()), w_37)) else none) else none)
noncomputable def law02_RijndaelPieces_l1_b (K : Nat) (rec : Sl → Option Addr → Sl → Int → Int → World → Option ((Out (Int × Unit) (Bool × Unit)) × World)) (cuts2 : Sl) (t11 : Option Addr) (whole13 : Sl) (from15 : Int) (i16 : Int) (w : World) : Option ((Out (Int × Unit) (Bool × Unit)) × World) :=
  bnd (law02_RijndaelPieces_s2 K cuts2 from15 i16 w) fun y_20 w_21 =>
  if y_20.1 = true then ((cuts2.a).bind fun p_22 =>
  if (0 : Int) ≤ i16 ∧ i16 < ((cuts2.len : Nat) : Int) then ((ldI .i64 (p_22.add ((Int.toNat i16) * 1)) w_21).bind fun v_23 =>
  if (IntKind.i64.wrap ((IntKind.i64.wrap (600 - from15)) + 1)) ≠ 0 then (bnd (law02_RijndaelPieces_s3 K (Int.tmod v_23 (IntKind.i64.wrap ((IntKind.i64.wrap (600 - from15)) + 1))) (decide ((Int.tmod v_23 (IntKind.i64.wrap ((IntKind.i64.wrap (600 - from15)) + 1))) < 0)) w_21) fun y_24 w_25 =>
  (cuts2.a).bind fun p_26 =>
  if (0 : Int) ≤ i16 ∧ i16 < ((cuts2.len : Nat) : Int) then ((ldI .i64 (p_26.add ((Int.toNat i16) * 1)) w_25).bind fun v_27 =>
  if ((Int.tmod v_27 3) == 0) = true then (bnd (rijndael_Stream_Skip t11 (IntKind.u64.wrap y_24.1) w_25) fun r_28 w_29 =>
  (law02_num r_28.1).bind fun r_30 =>
  if (r_30.1 != 0) = true then (some (.ret (false, ()), w_29)) else (rec cuts2 t11 whole13 (IntKind.i64.wrap (from15 + y_24.1)) (IntKind.i64.wrap (i16 + 1)) w_29)) else (bnd (mkS prog 22 (.int .i64 y_24.1) (.int .i64 y_24.1) w_25) fun s_31 w_32 =>
  bnd (rijndael_Stream_XOR K t11 s_31 w_32) fun r_33 w_34 =>
  bnd (law02_RijndaelPieces_s4 K whole13 from15 y_24.1 r_33.1 r_33.2.1 w_34) fun y_38 w_39 =>
  if y_38.1 = true then (some (.ret (false, ()), w_39)) else (rec cuts2 t11 whole13 (IntKind.i64.wrap (from15 + y_24.1)) (IntKind.i64.wrap (i16 + 1)) w_39))) else none) else none) else none) else (some (.norm (from15, ()), w_21))
noncomputable def law02_RijndaelPieces_l1 (K : Nat) (n : Nat) : Sl → Option Addr → Sl → Int → Int → World → Option ((Out (Int × Unit) (Bool × Unit)) × World) := iter (fun _ _ _ _ _ _ => none) (law02_RijndaelPieces_l1_b K) n
/-- coffer/cofferlaw02.RijndaelPieces -/
noncomputable def law02_RijndaelPieces (K : Nat) (key0 : Sl) (start1 : Array Value) (cuts2 : Sl) (w : World) : Option ((Bool × Unit) × World) :=
  bnd (newB start1 42 w) fun p_1 w_2 =>
  bnd (law02_RijndaelVectors K  w_2) fun r_3 w_4 =>
  if (!r_3.1) = true then (some ((false, ()), w_4)) else (bnd (rijndael_New K key0 w_4) fun r_5 w_6 =>
  if r_5.1.isNone = true then (some ((true, ()), w_6)) else ((ldA 16 p_1 w_6).bind fun v_7 =>
  bnd (rijndael_Key_Stream r_5.1 v_7 w_6) fun r_8 w_9 =>
  (ldA 16 p_1 w_9).bind fun v_10 =>
  bnd (rijndael_Key_Stream r_5.1 v_10 w_9) fun r_11 w_12 =>
  bnd (mkS prog 22 (.int .i64 600) (.int .i64 600) w_12) fun s_13 w_14 =>
  bnd (rijndael_Stream_XOR K r_8.1 s_13 w_14) fun r_15 w_16 =>
  bnd (law02_RijndaelPieces_s0 K r_15.1 r_15.2.1 w_16) fun y_18 w_19 =>
  if y_18.1 = true then (some ((false, ()), w_19)) else (bnd (law02_RijndaelPieces_l1 K K cuts2 r_11.1 r_15.1 0 0 w_19) fun y_40 w_41 =>
  (match y_40 with
  | .norm z_42n => ((rijndael_Stream_At r_11.1 w_41).bind fun r_43 =>
  some (((r_43.1 == (IntKind.u64.wrap z_42n.1)), ()), w_41))
  | .ret z_42r => (some ((z_42r.1, ()), w_41))))))
theorem law02_RijndaelPieces_s0_ok (K : Nat) : StmtNOk prog [(13, .sl), (14, .int .i64)] [(54, .bool)] [(47, 55)] (fun x w => law02_RijndaelPieces_s0 K x.1 x.2.1 w) (cd (bodyOf f6) [1, 1, 1, 1, 1, 1, 1, 0, 0]) :=
    mk_stmtN (O := tabL []) (root := (bodyOf f6)) (π := [1, 1, 1, 1, 1, 1, 1, 0, 0]) (Li := [(13, .sl), (14, .int .i64)]) (Lo := [(54, .bool)]) (S := (fun x w => law02_RijndaelPieces_s0 K x.1 x.2.1 w)) (law02_RijndaelPieces_Eok K) (law02_RijndaelPieces_Rok K) rfl (Orc.nil _ _ _) (by kernel_rfl) (fun _ _ => by kernel_rfl)
noncomputable def law02_RijndaelPieces_s0_se (K : Nat) : SE := stmtN [(13, .sl), (14, .int .i64)] [(54, .bool)] [(47, 55)] (fun x w => law02_RijndaelPieces_s0 K x.1 x.2.1 w)
theorem law02_RijndaelPieces_s0_se_ok (K : Nat) (R : Rg) (h : subRB [(47, 55)] R = true) : (law02_RijndaelPieces_s0_se K).Ok prog R (cd (bodyOf f6) [1, 1, 1, 1, 1, 1, 1, 0, 0]) := stmtN_ok (Li := [(13, .sl), (14, .int .i64)]) (Lo := [(54, .bool)]) (S := (fun x w => law02_RijndaelPieces_s0 K x.1 x.2.1 w)) (law02_RijndaelPieces_s0_ok K) (subR_of h)
theorem law02_RijndaelPieces_s2_ok (K : Nat) : StmtNOk prog [(2, .sl), (15, .int .i64), (16, .int .i64)] [(66, .bool)] [(55, 67)] (fun x w => law02_RijndaelPieces_s2 K x.1 x.2.1 x.2.2.1 w) (cd (bodyOf f6) [1, 1, 1, 1, 1, 1, 1, 1, 1, 0, 1, 0, 0, 0, 0]) :=
    mk_stmtN (O := tabL []) (root := (bodyOf f6)) (π := [1, 1, 1, 1, 1, 1, 1, 1, 1, 0, 1, 0, 0, 0, 0]) (Li := [(2, .sl), (15, .int .i64), (16, .int .i64)]) (Lo := [(66, .bool)]) (S := (fun x w => law02_RijndaelPieces_s2 K x.1 x.2.1 x.2.2.1 w)) (law02_RijndaelPieces_Eok K) (law02_RijndaelPieces_Rok K) rfl (Orc.nil _ _ _) (by kernel_rfl) (fun _ _ => by kernel_rfl)
noncomputable def law02_RijndaelPieces_s2_se (K : Nat) : SE := stmtN [(2, .sl), (15, .int .i64), (16, .int .i64)] [(66, .bool)] [(55, 67)] (fun x w => law02_RijndaelPieces_s2 K x.1 x.2.1 x.2.2.1 w)
theorem law02_RijndaelPieces_s2_se_ok (K : Nat) (R : Rg) (h : subRB [(55, 67)] R = true) : (law02_RijndaelPieces_s2_se K).Ok prog R (cd (bodyOf f6) [1, 1, 1, 1, 1, 1, 1, 1, 1, 0, 1, 0, 0, 0, 0]) := stmtN_ok (Li := [(2, .sl), (15, .int .i64), (16, .int .i64)]) (Lo := [(66, .bool)]) (S := (fun x w => law02_RijndaelPieces_s2 K x.1 x.2.1 x.2.2.1 w)) (law02_RijndaelPieces_s2_ok K) (subR_of h)
theorem law02_RijndaelPieces_s3_ok (K : Nat) : StmtNOk prog [(17, .int .i64), (78, .bool)] [(17, .int .i64)] [(17, 18), (79, 81)] (fun x w => law02_RijndaelPieces_s3 K x.1 x.2.1 w) (cd (bodyOf f6) [1, 1, 1, 1, 1, 1, 1, 1, 1, 0, 1, 0, 0, 1, 0, 0, 1, 0, 1]) :=
    mk_stmtN (O := tabL []) (root := (bodyOf f6)) (π := [1, 1, 1, 1, 1, 1, 1, 1, 1, 0, 1, 0, 0, 1, 0, 0, 1, 0, 1]) (Li := [(17, .int .i64), (78, .bool)]) (Lo := [(17, .int .i64)]) (S := (fun x w => law02_RijndaelPieces_s3 K x.1 x.2.1 w)) (law02_RijndaelPieces_Eok K) (law02_RijndaelPieces_Rok K) rfl (Orc.nil _ _ _) (by kernel_rfl) (fun _ _ => by kernel_rfl)
noncomputable def law02_RijndaelPieces_s3_se (K : Nat) : SE := stmtN [(17, .int .i64), (78, .bool)] [(17, .int .i64)] [(17, 18), (79, 81)] (fun x w => law02_RijndaelPieces_s3 K x.1 x.2.1 w)
theorem law02_RijndaelPieces_s3_se_ok (K : Nat) (R : Rg) (h : subRB [(17, 18), (79, 81)] R = true) : (law02_RijndaelPieces_s3_se K).Ok prog R (cd (bodyOf f6) [1, 1, 1, 1, 1, 1, 1, 1, 1, 0, 1, 0, 0, 1, 0, 0, 1, 0, 1]) := stmtN_ok (Li := [(17, .int .i64), (78, .bool)]) (Lo := [(17, .int .i64)]) (S := (fun x w => law02_RijndaelPieces_s3 K x.1 x.2.1 w)) (law02_RijndaelPieces_s3_ok K) (subR_of h)
theorem law02_RijndaelPieces_s4_ok (K : Nat) : StmtNOk prog [(13, .sl), (15, .int .i64), (17, .int .i64), (18, .sl), (19, .int .i64)] [(116, .bool)] [(103, 117)] (fun x w => law02_RijndaelPieces_s4 K x.1 x.2.1 x.2.2.1 x.2.2.2.1 x.2.2.2.2.1 w) (cd (bodyOf f6) [1, 1, 1, 1, 1, 1, 1, 1, 1, 0, 1, 0, 0, 1, 0, 0, 1, 1, 1, 1, 0, 0]) :=
    mk_stmtN (O := tabL []) (root := (bodyOf f6)) (π := [1, 1, 1, 1, 1, 1, 1, 1, 1, 0, 1, 0, 0, 1, 0, 0, 1, 1, 1, 1, 0, 0]) (Li := [(13, .sl), (15, .int .i64), (17, .int .i64), (18, .sl), (19, .int .i64)]) (Lo := [(116, .bool)]) (S := (fun x w => law02_RijndaelPieces_s4 K x.1 x.2.1 x.2.2.1 x.2.2.2.1 x.2.2.2.2.1 w)) (law02_RijndaelPieces_Eok K) (law02_RijndaelPieces_Rok K) rfl (Orc.nil _ _ _) (by kernel_rfl) (fun _ _ => by kernel_rfl)
noncomputable def law02_RijndaelPieces_s4_se (K : Nat) : SE := stmtN [(13, .sl), (15, .int .i64), (17, .int .i64), (18, .sl), (19, .int .i64)] [(116, .bool)] [(103, 117)] (fun x w => law02_RijndaelPieces_s4 K x.1 x.2.1 x.2.2.1 x.2.2.2.1 x.2.2.2.2.1 w)
theorem law02_RijndaelPieces_s4_se_ok (K : Nat) (R : Rg) (h : subRB [(103, 117)] R = true) : (law02_RijndaelPieces_s4_se K).Ok prog R (cd (bodyOf f6) [1, 1, 1, 1, 1, 1, 1, 1, 1, 0, 1, 0, 0, 1, 0, 0, 1, 1, 1, 1, 0, 0]) := stmtN_ok (Li := [(13, .sl), (15, .int .i64), (17, .int .i64), (18, .sl), (19, .int .i64)]) (Lo := [(116, .bool)]) (S := (fun x w => law02_RijndaelPieces_s4 K x.1 x.2.1 x.2.2.1 x.2.2.2.1 x.2.2.2.2.1 w)) (law02_RijndaelPieces_s4_ok K) (subR_of h)
theorem law02_RijndaelPieces_l1_ok (K : Nat) (n : Nat) : StmtOk prog [(2, .sl), (11, .ptr), (13, .sl), (15, .int .i64), (16, .int .i64)] [(15, .int .i64)] [(6, .bool)] [(6, 7), (15, 20), (55, 120)] ((fun n x w => law02_RijndaelPieces_l1 K n x.1 x.2.1 x.2.2.1 x.2.2.2.1 x.2.2.2.2.1 w) n) (.block 0 (.loop (cd (bodyOf f6) [1, 1, 1, 1, 1, 1, 1, 1, 1, 0, 1, 0, 0]))) :=
    mk_loop (O := tabL [([1, 1, 1, 1, 1, 1, 1, 1, 1, 0, 1, 0, 0, 0, 0], law02_RijndaelPieces_s2_se K), ([1, 1, 1, 1, 1, 1, 1, 1, 1, 0, 1, 0, 0, 1, 0, 0, 1, 0, 1], law02_RijndaelPieces_s3_se K), ([1, 1, 1, 1, 1, 1, 1, 1, 1, 0, 1, 0, 0, 1, 0, 0, 1, 1, 1, 1, 0, 0], law02_RijndaelPieces_s4_se K)]) (root := (bodyOf f6)) (π := [1, 1, 1, 1, 1, 1, 1, 1, 1, 0, 1, 0, 0]) (id := 0) (Li := [(2, .sl), (11, .ptr), (13, .sl), (15, .int .i64), (16, .int .i64)]) (Lo := [(15, .int .i64)]) (Lr := [(6, .bool)]) (S := (fun n x w => law02_RijndaelPieces_l1 K n x.1 x.2.1 x.2.2.1 x.2.2.2.1 x.2.2.2.2.1 w)) (body := cd (bodyOf f6) [1, 1, 1, 1, 1, 1, 1, 1, 1, 0, 1, 0, 0]) (law02_RijndaelPieces_Eok K) (law02_RijndaelPieces_Rok K) rfl (Orc.cons (by kernel_rfl) (law02_RijndaelPieces_s2_se_ok K [(6, 7), (15, 20), (55, 120)] (by kernel_rfl)) (Orc.cons (by kernel_rfl) (law02_RijndaelPieces_s3_se_ok K [(6, 7), (15, 20), (55, 120)] (by kernel_rfl)) (Orc.cons (by kernel_rfl) (law02_RijndaelPieces_s4_se_ok K [(6, 7), (15, 20), (55, 120)] (by kernel_rfl)) (Orc.nil _ _ _)))) (by kernel_rfl) (fun _ _ => by kernel_rfl) (fun _ _ _ => by kernel_rfl) n
noncomputable def law02_RijndaelPieces_l1_se (K : Nat) : SE := stmt [(2, .sl), (11, .ptr), (13, .sl), (15, .int .i64), (16, .int .i64)] [(15, .int .i64)] [(6, .bool)] [(6, 7), (15, 20), (55, 120)] (fun x w => law02_RijndaelPieces_l1 K K x.1 x.2.1 x.2.2.1 x.2.2.2.1 x.2.2.2.2.1 w)
theorem law02_RijndaelPieces_l1_se_ok (K : Nat) (R : Rg) (h : subRB [(6, 7), (15, 20), (55, 120)] R = true) : (law02_RijndaelPieces_l1_se K).Ok prog R (.block 0 (.loop (cd (bodyOf f6) [1, 1, 1, 1, 1, 1, 1, 1, 1, 0, 1, 0, 0]))) := stmt_ok (Li := [(2, .sl), (11, .ptr), (13, .sl), (15, .int .i64), (16, .int .i64)]) (Lo := [(15, .int .i64)]) (Lr := [(6, .bool)]) (S := (fun x w => law02_RijndaelPieces_l1 K K x.1 x.2.1 x.2.2.1 x.2.2.2.1 x.2.2.2.2.1 w)) (law02_RijndaelPieces_l1_ok K K) (subR_of h)
theorem law02_RijndaelPieces_facts : FunFacts prog 6 f6 (bodyOf f6) [(0, .sl), (1, .agg), (2, .sl)] [(0, 125)] := ⟨func6, by kernel_rfl, by kernel_rfl, by kernel_rfl, by kernel_rfl, by kernel_rfl⟩
theorem law02_RijndaelPieces_calls (K : Nat) (x : TT [(0, .sl), (1, .agg), (2, .sl)]) (w : World) (y : TR [.bool]) (w2 : World) (h : law02_RijndaelPieces K x.1 x.2.1 x.2.2.1 w = some (y, w2)) : Calls prog 6 (encA [(0, .sl), (1, .agg), (2, .sl)] x).toArray w (fun e w3 => e = .returned (resV (encR [.bool] y)) ∧ w3 = w2) :=
    mk_fun (O := tabL [([1, 1, 1, 1, 1, 1, 1, 0, 0], law02_RijndaelPieces_s0_se K), ([1, 1, 1, 1, 1, 1, 1, 1, 1, 0, 1], law02_RijndaelPieces_l1_se K), ([1, 1, 1, 1, 1, 1, 1, 1, 1, 0, 1, 0, 0, 0, 0], law02_RijndaelPieces_s2_se K), ([1, 1, 1, 1, 1, 1, 1, 1, 1, 0, 1, 0, 0, 1, 0, 0, 1, 0, 1], law02_RijndaelPieces_s3_se K), ([1, 1, 1, 1, 1, 1, 1, 1, 1, 0, 1, 0, 0, 1, 0, 0, 1, 1, 1, 1, 0, 0], law02_RijndaelPieces_s4_se K)]) (Lp := [(0, .sl), (1, .agg), (2, .sl)]) (Rt := [.bool]) (S := (fun x w => law02_RijndaelPieces K x.1 x.2.1 x.2.2.1 w)) (law02_RijndaelPieces_Eok K) (law02_RijndaelPieces_Rok K) rfl law02_RijndaelPieces_facts (Orc.cons (by kernel_rfl) (law02_RijndaelPieces_s0_se_ok K [(0, 125)] (by kernel_rfl)) (Orc.cons (by kernel_rfl) (law02_RijndaelPieces_l1_se_ok K [(0, 125)] (by kernel_rfl)) (Orc.cons (by kernel_rfl) (law02_RijndaelPieces_s2_se_ok K [(0, 125)] (by kernel_rfl)) (Orc.cons (by kernel_rfl) (law02_RijndaelPieces_s3_se_ok K [(0, 125)] (by kernel_rfl)) (Orc.cons (by kernel_rfl) (law02_RijndaelPieces_s4_se_ok K [(0, 125)] (by kernel_rfl)) (Orc.nil _ _ _)))))) (fun _ _ => by kernel_rfl) x w y w2 h
noncomputable def law02_RijndaelPieces_ce (K : Nat) : CE := funE [(0, .sl), (1, .agg), (2, .sl)] [.bool] (fun x w => law02_RijndaelPieces K x.1 x.2.1 x.2.2.1 w)
theorem law02_RijndaelPieces_ok (K : Nat) : (law02_RijndaelPieces_ce K).Ok prog 6 := funE_ok (Rt := [.bool]) (S := (fun x w => law02_RijndaelPieces K x.1 x.2.1 x.2.2.1 w)) law02_RijndaelPieces_facts fun x w y w2 h => law02_RijndaelPieces_calls K x w y w2 h

noncomputable def rijndael_Unwrap_E (K : Nat) : List (Nat × CE) := [(44, rijndael_Key_schedule_ce), (51, rijndael_lay_ce K), (46, rijndael_tables_decrypt_ce K)]
theorem rijndael_Unwrap_Eok (K : Nat) : Env.Ok prog (tab (rijndael_Unwrap_E K)) := (Env.cons (rijndael_Key_schedule_ok) (Env.cons (rijndael_lay_ok K) (Env.cons (rijndael_tables_decrypt_ok K) (Env.nil _))))
noncomputable def rijndael_Unwrap_R (K : Nat) : List (Nat × RE) := [(39, rijndael_number_re K)]
theorem rijndael_Unwrap_Rok (K : Nat) : REnv.Ok prog (tab (rijndael_Unwrap_R K)) := (REnv.cons (rijndael_number_ok K) (REnv.nil _))
noncomputable def rijndael_Unwrap_s1 (K : Nat) (sealed1 : Sl) (w : World) : Option ((Bool × Unit) × World) :=
  if (decide (((sealed1.len : Nat) : Int) < 24)) = true then (some ((true, ()), w)) else (some ((((Int.tmod ((sealed1.len : Nat) : Int) 8) != 0), ()), w))
noncomputable def rijndael_Unwrap_s0 (K : Nat) (sealed1 : Sl) (e7 : Int) (w : World) : Option ((Out (Unit) (Sl × Int × Unit)) × World) :=
  if (e7 != 0) = true then (some (.ret (⟨none, 0, 0⟩, e7, ()), w)) else (bnd (rijndael_Unwrap_s1 K sealed1 w) fun y_3 w_4 =>
  if y_3.1 = true then (some (.ret (⟨none, 0, 0⟩, 5, ()), w_4)) else (if (decide (((sealed1.len : Nat) : Int) > 4104)) = true then (some (.ret (⟨none, 0, 0⟩, 4, ()), w_4)) else (some (.norm (), w_4))))
noncomputable def rijndael_Unwrap_s2 {β : Type} (K : Nat) (sealed1 : Sl) (w : World) (k : (Addr × Unit) → World → Option β) : Option β :=
  if (0 : Int) ≤ 8 ∧ 8 ≤ ((sealed1.len : Nat) : Int) then (allB [((rijndael_number K sealed1 8 w.drew).bind fun r_8 =>
  allB [(bnd (apd prog 22 22 (.slice none 0 0) (.slice (sla sealed1.a 8 sealed1.cap 1) (sealed1.len - 8) (sealed1.cap - 8)) w.drew) fun s_9 w_10 =>
  (prog.built 111 [(0, (.int .u64 r_8.1)), (1, (.slice s_9.a s_9.len s_9.cap))]).bind fun cs_11 =>
  bnd (newB z111 111 w_10) fun s_12 w_13 =>
  if (cs_11).size = 2 then ((stA s_12 cs_11 w_13).bind fun w_14 =>
  k (s_12, ()) w_14) else none),
   (bnd (newB z111 111 w.drew) fun s_15 w_16 =>
  bnd (apd prog 22 22 (.slice none 0 0) (.slice (sla sealed1.a 8 sealed1.cap 1) (sealed1.len - 8) (sealed1.cap - 8)) w_16) fun s_17 w_18 =>
  (prog.built 111 [(0, (.int .u64 r_8.1)), (1, (.slice s_17.a s_17.len s_17.cap))]).bind fun cs_19 =>
  if (cs_19).size = 2 then ((stA s_15 cs_19 w_18).bind fun w_20 =>
  k (s_15, ()) w_20) else none)]),
   (bnd (newB z111 111 w.drew) fun s_21 w_22 =>
  (rijndael_number K sealed1 8 w_22).bind fun r_23 =>
  bnd (apd prog 22 22 (.slice none 0 0) (.slice (sla sealed1.a 8 sealed1.cap 1) (sealed1.len - 8) (sealed1.cap - 8)) w_22) fun s_24 w_25 =>
  (prog.built 111 [(0, (.int .u64 r_23.1)), (1, (.slice s_24.a s_24.len s_24.cap))]).bind fun cs_26 =>
  if (cs_26).size = 2 then ((stA s_21 cs_26 w_25).bind fun w_27 =>
  k (s_21, ()) w_27) else none)]) else none
noncomputable def rijndael_Unwrap_l3_b (K : Nat) (rec : Option Addr → Sl → Addr → Int → Int → World → Option ((Unit) × World)) (k0 : Option Addr) (w6 : Sl) (s8 : Addr) (n9 : Int) (t10 : Int) (w : World) : Option ((Unit) × World) :=
  if (decide (t10 ≥ 0)) = true then (if n9 ≠ 0 then (bnd (newB z42 42 w) fun b_31 w_32 =>
  (ldI .u64 (s8.add 0) w_32.drew).bind fun v_33 =>
  bnd (rijndael_lay K ⟨(sla (some b_31) 0 16 1), (16 - 0), (16 - 0)⟩ 8 (bits .xor .u64 v_33 (IntKind.u64.wrap (IntKind.i64.wrap (t10 + 1)))) w_32.drew) fun r_34 w_35 =>
  (ldS (s8.add 1) w_35.drew).bind fun v_36 =>
  if (0 : Int) ≤ (IntKind.i64.wrap ((Int.tmod t10 n9) * 8)) ∧ (IntKind.i64.wrap ((Int.tmod t10 n9) * 8)) ≤ ((v_36.len : Nat) : Int) then (bnd (cpy prog 22 22 (.slice (sla (some b_31) 8 16 1) (16 - 8) (16 - 8)) (.slice (sla v_36.a (Int.toNat ((IntKind.i64.wrap ((Int.tmod t10 n9) * 8)))) v_36.cap 1) (v_36.len - (Int.toNat ((IntKind.i64.wrap ((Int.tmod t10 n9) * 8))))) (v_36.cap - (Int.toNat ((IntKind.i64.wrap ((Int.tmod t10 n9) * 8)))))) w_35.drew) fun s_37 w_38 =>
  (k0).bind fun p_39 =>
  (ldP (p_39.add 7) w_38.drew).bind fun v_40 =>
  (ldA 16 b_31 w_38.drew).bind fun v_41 =>
  bnd (rijndael_tables_decrypt K v_40 w6 v_41 w_38.drew) fun r_42 w_43 =>
  if (r_42.1).size = 16 then ((stA b_31 r_42.1 w_43).bind fun w_44 =>
  (rijndael_number K ⟨(sla (some b_31) 0 16 1), (16 - 0), (16 - 0)⟩ 8 w_44).bind fun r_45 =>
  (stC (s8.add 0) (.int .u64 r_45.1) w_44).bind fun w_46 =>
  (ldS (s8.add 1) w_46.drew).bind fun v_47 =>
  if (0 : Int) ≤ (IntKind.i64.wrap ((IntKind.i64.wrap ((Int.tmod t10 n9) * 8)) + 8)) ∧ (IntKind.i64.wrap ((IntKind.i64.wrap ((Int.tmod t10 n9) * 8)) + 8)) ≤ ((v_47.cap : Nat) : Int) then (if (0 : Int) ≤ (IntKind.i64.wrap ((Int.tmod t10 n9) * 8)) ∧ (IntKind.i64.wrap ((Int.tmod t10 n9) * 8)) ≤ (((Int.toNat ((IntKind.i64.wrap ((IntKind.i64.wrap ((Int.tmod t10 n9) * 8)) + 8)))) : Nat) : Int) then (bnd (cpy prog 22 22 (.slice (sla v_47.a (Int.toNat ((IntKind.i64.wrap ((Int.tmod t10 n9) * 8)))) v_47.cap 1) ((Int.toNat ((IntKind.i64.wrap ((IntKind.i64.wrap ((Int.tmod t10 n9) * 8)) + 8)))) - (Int.toNat ((IntKind.i64.wrap ((Int.tmod t10 n9) * 8))))) (v_47.cap - (Int.toNat ((IntKind.i64.wrap ((Int.tmod t10 n9) * 8)))))) (.slice (sla (some b_31) 8 16 1) (16 - 8) (16 - 8)) w_46.drew) fun s_48 w_49 =>
  rec k0 w6 s8 n9 (IntKind.i64.wrap (t10 - 1)) w_49) else none) else none) else none) else none) else none) else (some ((), w))
noncomputable def rijndael_Unwrap_l3 (K : Nat) (n : Nat) : Option Addr → Sl → Addr → Int → Int → World → Option ((Unit) × World) := iter (fun _ _ _ _ _ _ => none) (rijndael_Unwrap_l3_b K) n
/-- coffer/rijndael.Unwrap -/
noncomputable def rijndael_Unwrap {β : Type} (K : Nat) (k0 : Option Addr) (sealed1 : Sl) (w : World) (k : (Sl × Int × Unit) → World → Option β) : Option β :=
  bnd (rijndael_Key_schedule k0 true w) fun r_1 w_2 =>
  bnd (rijndael_Unwrap_s0 K sealed1 r_1.2.1 w_2) fun y_5 w_6 =>
  (match y_5 with
  | .norm z_7n => (rijndael_Unwrap_s2 K sealed1 w_6 fun y_28 w_29 =>
  (ldS (y_28.1.add 1) w_29).bind fun v_30 =>
  bnd (rijndael_Unwrap_l3 K K k0 r_1.1 y_28.1 (IntKind.i64.wrap (Int.tdiv ((v_30.len : Nat) : Int) 8)) (IntKind.i64.wrap ((IntKind.i64.wrap (6 * (IntKind.i64.wrap (Int.tdiv ((v_30.len : Nat) : Int) 8)))) - 1)) w_29) fun y_50 w_51 =>
  (ldI .u64 (y_28.1.add 0) w_51).bind fun v_52 =>
  if (v_52 != 12008468691120727718) = true then (k (⟨none, 0, 0⟩, 22, ()) w_51) else ((ldS (y_28.1.add 1) w_51).bind fun v_53 =>
  k (v_53, 0, ()) w_51))
  | .ret z_7r => (k (z_7r.1, z_7r.2.1, ()) w_6))
theorem rijndael_Unwrap_s1_ok (K : Nat) : StmtNOk prog [(1, .sl)] [(22, .bool)] [(22, 32)] (fun x w => rijndael_Unwrap_s1 K x.1 w) (cd (bodyOf f36) [1, 1, 0, 0, 1, 1, 0]) :=
    mk_stmtN (O := tabL []) (root := (bodyOf f36)) (π := [1, 1, 0, 0, 1, 1, 0]) (Li := [(1, .sl)]) (Lo := [(22, .bool)]) (S := (fun x w => rijndael_Unwrap_s1 K x.1 w)) (rijndael_Unwrap_Eok K) (rijndael_Unwrap_Rok K) rfl (Orc.nil _ _ _) (by kernel_rfl) (fun _ _ => by kernel_rfl)
noncomputable def rijndael_Unwrap_s1_se (K : Nat) : SE := stmtN [(1, .sl)] [(22, .bool)] [(22, 32)] (fun x w => rijndael_Unwrap_s1 K x.1 w)
theorem rijndael_Unwrap_s1_se_ok (K : Nat) (R : Rg) (h : subRB [(22, 32)] R = true) : (rijndael_Unwrap_s1_se K).Ok prog R (cd (bodyOf f36) [1, 1, 0, 0, 1, 1, 0]) := stmtN_ok (Li := [(1, .sl)]) (Lo := [(22, .bool)]) (S := (fun x w => rijndael_Unwrap_s1 K x.1 w)) (rijndael_Unwrap_s1_ok K) (subR_of h)
theorem rijndael_Unwrap_s0_ok (K : Nat) : StmtOk prog [(1, .sl), (7, .int .i64)] [] [(4, .sl), (5, .int .i64)] [(4, 6), (18, 36)] (fun x w => rijndael_Unwrap_s0 K x.1 x.2.1 w) (cd (bodyOf f36) [1, 1, 0]) :=
    mk_stmt (O := tabL [([1, 1, 0, 0, 1, 1, 0], rijndael_Unwrap_s1_se K)]) (root := (bodyOf f36)) (π := [1, 1, 0]) (Li := [(1, .sl), (7, .int .i64)]) (Lo := []) (Lr := [(4, .sl), (5, .int .i64)]) (S := (fun x w => rijndael_Unwrap_s0 K x.1 x.2.1 w)) (rijndael_Unwrap_Eok K) (rijndael_Unwrap_Rok K) rfl (Orc.cons (by kernel_rfl) (rijndael_Unwrap_s1_se_ok K [(4, 6), (18, 36)] (by kernel_rfl)) (Orc.nil _ _ _)) (by kernel_rfl) (fun _ _ => by kernel_rfl)
noncomputable def rijndael_Unwrap_s0_se (K : Nat) : SE := stmt [(1, .sl), (7, .int .i64)] [] [(4, .sl), (5, .int .i64)] [(4, 6), (18, 36)] (fun x w => rijndael_Unwrap_s0 K x.1 x.2.1 w)
theorem rijndael_Unwrap_s0_se_ok (K : Nat) (R : Rg) (h : subRB [(4, 6), (18, 36)] R = true) : (rijndael_Unwrap_s0_se K).Ok prog R (cd (bodyOf f36) [1, 1, 0]) := stmt_ok (Li := [(1, .sl), (7, .int .i64)]) (Lo := []) (Lr := [(4, .sl), (5, .int .i64)]) (S := (fun x w => rijndael_Unwrap_s0 K x.1 x.2.1 w)) (rijndael_Unwrap_s0_ok K) (subR_of h)
theorem rijndael_Unwrap_s2_ok (K : Nat) : StmtCOk prog [(1, .sl)] [(8, .addr)] [(8, 9), (36, 42)] (fun {_} x w k => rijndael_Unwrap_s2 K x.1 w k) (cd (bodyOf f36) [1, 1, 1, 0]) :=
    mk_regionC (R := [(8, 9), (36, 42)]) (Li := [(1, .sl)]) (Lo := [(8, .addr)]) (S := (fun {_} x w k => rijndael_Unwrap_s2 K x.1 w k)) (rijndael_Unwrap_Eok K) (rijndael_Unwrap_Rok K) rfl (fun _ _ _ => by kernel_rfl)
noncomputable def rijndael_Unwrap_s2_se (K : Nat) : SE := stmtC [(1, .sl)] [(8, .addr)] [(8, 9), (36, 42)] (fun {_} x w k => rijndael_Unwrap_s2 K x.1 w k)
theorem rijndael_Unwrap_s2_se_ok (K : Nat) (R : Rg) (h : subRB [(8, 9), (36, 42)] R = true) : (rijndael_Unwrap_s2_se K).Ok prog R (cd (bodyOf f36) [1, 1, 1, 0]) := stmtC_ok (Li := [(1, .sl)]) (Lo := [(8, .addr)]) (S := (fun {_} x w k => rijndael_Unwrap_s2 K x.1 w k)) (rijndael_Unwrap_s2_ok K) (subR_of h)
theorem rijndael_Unwrap_l3_ok (K : Nat) (n : Nat) : StmtNOk prog [(0, .ptr), (6, .sl), (8, .addr), (9, .int .i64), (10, .int .i64)] [] [(10, 13), (49, 89)] ((fun n x w => rijndael_Unwrap_l3 K n x.1 x.2.1 x.2.2.1 x.2.2.2.1 x.2.2.2.2.1 w) n) (.block 1 (.loop (cd (bodyOf f36) [1, 1, 1, 1, 1, 0, 1, 0, 0]))) :=
    mk_loopN (O := tabL []) (root := (bodyOf f36)) (π := [1, 1, 1, 1, 1, 0, 1, 0, 0]) (id := 1) (Li := [(0, .ptr), (6, .sl), (8, .addr), (9, .int .i64), (10, .int .i64)]) (Lo := []) (S := (fun n x w => rijndael_Unwrap_l3 K n x.1 x.2.1 x.2.2.1 x.2.2.2.1 x.2.2.2.2.1 w)) (body := cd (bodyOf f36) [1, 1, 1, 1, 1, 0, 1, 0, 0]) (rijndael_Unwrap_Eok K) (rijndael_Unwrap_Rok K) rfl (Orc.nil _ _ _) (by kernel_rfl) (fun _ _ => by kernel_rfl) (fun _ _ _ => by kernel_rfl) n
noncomputable def rijndael_Unwrap_l3_se (K : Nat) : SE := stmtN [(0, .ptr), (6, .sl), (8, .addr), (9, .int .i64), (10, .int .i64)] [] [(10, 13), (49, 89)] (fun x w => rijndael_Unwrap_l3 K K x.1 x.2.1 x.2.2.1 x.2.2.2.1 x.2.2.2.2.1 w)
theorem rijndael_Unwrap_l3_se_ok (K : Nat) (R : Rg) (h : subRB [(10, 13), (49, 89)] R = true) : (rijndael_Unwrap_l3_se K).Ok prog R (.block 1 (.loop (cd (bodyOf f36) [1, 1, 1, 1, 1, 0, 1, 0, 0]))) := stmtN_ok (Li := [(0, .ptr), (6, .sl), (8, .addr), (9, .int .i64), (10, .int .i64)]) (Lo := []) (S := (fun x w => rijndael_Unwrap_l3 K K x.1 x.2.1 x.2.2.1 x.2.2.2.1 x.2.2.2.2.1 w)) (rijndael_Unwrap_l3_ok K K) (subR_of h)
theorem rijndael_Unwrap_facts : FunFacts prog 36 f36 (bodyOf f36) [(0, .ptr), (1, .sl)] [(0, 94)] := ⟨func36, by kernel_rfl, by kernel_rfl, by kernel_rfl, by kernel_rfl, by kernel_rfl⟩
theorem rijndael_Unwrap_calls (K : Nat) {β : Type} (x : TT [(0, .ptr), (1, .sl)]) (w : World) (k : TR [.sl, .int .i64] → World → Option β) (r : β) (h : rijndael_Unwrap K x.1 x.2.1 w k = some r) : Calls prog 36 (encA [(0, .ptr), (1, .sl)] x).toArray w (fun e w3 => ∃ y, e = .returned (resV (encR [.sl, .int .i64] y)) ∧ k y w3 = some r) :=
    mk_funC (O := tabL [([1, 1, 0], rijndael_Unwrap_s0_se K), ([1, 1, 0, 0, 1, 1, 0], rijndael_Unwrap_s1_se K), ([1, 1, 1, 0], rijndael_Unwrap_s2_se K), ([1, 1, 1, 1, 1, 0, 1], rijndael_Unwrap_l3_se K)]) (Lp := [(0, .ptr), (1, .sl)]) (Rt := [.sl, .int .i64]) (S := (fun x w k => rijndael_Unwrap K x.1 x.2.1 w k)) (rijndael_Unwrap_Eok K) (rijndael_Unwrap_Rok K) rfl rijndael_Unwrap_facts (Orc.cons (by kernel_rfl) (rijndael_Unwrap_s0_se_ok K [(0, 94)] (by kernel_rfl)) (Orc.cons (by kernel_rfl) (rijndael_Unwrap_s1_se_ok K [(0, 94)] (by kernel_rfl)) (Orc.cons (by kernel_rfl) (rijndael_Unwrap_s2_se_ok K [(0, 94)] (by kernel_rfl)) (Orc.cons (by kernel_rfl) (rijndael_Unwrap_l3_se_ok K [(0, 94)] (by kernel_rfl)) (Orc.nil _ _ _))))) (fun _ _ _ => by kernel_rfl) x w k r h
noncomputable def rijndael_Unwrap_ce (K : Nat) : CE := funC [(0, .ptr), (1, .sl)] [.sl, .int .i64] (fun {_} x w k => rijndael_Unwrap K x.1 x.2.1 w k)
theorem rijndael_Unwrap_ok (K : Nat) : (rijndael_Unwrap_ce K).Ok prog 36 := funC_ok (Rt := [.sl, .int .i64]) (S := (fun {_} x w k => rijndael_Unwrap K x.1 x.2.1 w k)) rijndael_Unwrap_facts fun x w k r h => rijndael_Unwrap_calls K x w k r h

noncomputable def law02_RijndaelBack_E (K : Nat) : List (Nat × CE) := [(5, law02_RijndaelVectors_ce K), (10, rijndael_New_ce K), (22, rijndael_Key_Encrypt_ce K), (23, rijndael_Key_Decrypt_ce K), (29, rijndael_Key_Stream_ce), (30, rijndael_Stream_XOR_ce K), (31, book_SameBytes_ce K), (35, rijndael_Wrap_ce K), (36, rijndael_Unwrap_ce K), (17, book_SpoilBytes_ce K)]
theorem law02_RijndaelBack_Eok (K : Nat) : Env.Ok prog (tab (law02_RijndaelBack_E K)) := (Env.cons (law02_RijndaelVectors_ok K) (Env.cons (rijndael_New_ok K) (Env.cons (rijndael_Key_Encrypt_ok K) (Env.cons (rijndael_Key_Decrypt_ok K) (Env.cons (rijndael_Key_Stream_ok) (Env.cons (rijndael_Stream_XOR_ok K) (Env.cons (book_SameBytes_ok K) (Env.cons (rijndael_Wrap_ok K) (Env.cons (rijndael_Unwrap_ok K) (Env.cons (book_SpoilBytes_ok K) (Env.nil _)))))))))))
noncomputable def law02_RijndaelBack_R (K : Nat) : List (Nat × RE) := [(12, law02_num_re), (34, rijndael_Stream_At_re)]
theorem law02_RijndaelBack_Rok (K : Nat) : REnv.Ok prog (tab (law02_RijndaelBack_R K)) := (REnv.cons (law02_num_ok) (REnv.cons (rijndael_Stream_At_ok) (REnv.nil _)))
noncomputable def law02_RijndaelBack_s0 (K : Nat) (key0 : Sl) (a6 : Bool) (e8 : Int) (w : World) : Option ((Bool × Unit) × World) :=
  (law02_num e8).bind fun r_7 =>
  if (r_7.1 == 20) = true then (if (((key0.len : Nat) : Int) != 16) = true then (if (((key0.len : Nat) : Int) != 24) = true then (some (((((key0.len : Nat) : Int) != 32), ()), w)) else (some ((false, ()), w))) else (some ((false, ()), w))) else (some ((false, ()), w))
noncomputable def law02_RijndaelBack_s1 (K : Nat) (b4 : Addr) (y11 : Addr) (w15 : Addr) (w : World) : Option ((Bool × Unit) × World) :=
  (ldA 16 y11 w).bind fun v_34 =>
  (ldA 16 b4 w).bind fun v_35 =>
  (eqA prog 42 v_34 v_35).bind fun b_36 =>
  if (!b_36) = true then (some ((true, ()), w)) else ((ldA 16 w15 w).bind fun v_37 =>
  (ldA 16 b4 w).bind fun v_38 =>
  (eqA prog 42 v_37 v_38).bind fun b_39 =>
  some (((!b_39), ()), w))
noncomputable def law02_RijndaelBack_s2 (K : Nat) (data2 : Sl) (a93 : Bool) (w : World) : Option ((Sl × Unit) × World) :=
  if a93 = true then (if (0 : Int) ≤ 4096 ∧ 4096 ≤ ((data2.cap : Nat) : Int) then (some ((⟨(sla data2.a 0 data2.cap 1), (4096 - 0), (data2.cap - 0)⟩, ()), w)) else none) else (some ((data2, ()), w))
noncomputable def law02_RijndaelBack_s3 (K : Nat) (data2 : Sl) (e8 : Int) (s17 : Option Addr) (d24 : Sl) (f25 : Int) (w : World) : Option ((Bool × Unit) × World) :=
  (law02_num e8).bind fun r_59 =>
  if (r_59.1 != 0) = true then (some ((true, ()), w)) else ((law02_num f25).bind fun r_60 =>
  if (r_60.1 != 0) = true then (some ((true, ()), w)) else (bnd (book_SameBytes K d24 data2 w) fun r_61 w_62 =>
  if (!r_61.1) = true then (some ((true, ()), w_62)) else ((rijndael_Stream_At s17 w_62).bind fun r_63 =>
  some (((r_63.1 != (IntKind.u64.wrap ((data2.len : Nat) : Int))), ()), w_62))))
noncomputable def law02_RijndaelBack_s4 (K : Nat) (data2 : Sl) (e8 : Int) (f25 : Int) (n26 : Int) (p27 : Sl) (q28 : Sl) (o30 : Sl) (w : World) : Option ((Bool × Unit) × World) :=
  (law02_num e8).bind fun r_72 =>
  if (r_72.1 != 0) = true then (some ((true, ()), w)) else ((law02_num f25).bind fun r_73 =>
  if (r_73.1 != 0) = true then (some ((true, ()), w)) else (if (((p27.len : Nat) : Int) != (IntKind.i64.wrap (n26 + 8))) = true then (some ((true, ()), w)) else (if (0 : Int) ≤ n26 ∧ n26 ≤ ((data2.cap : Nat) : Int) then (bnd (book_SameBytes K o30 ⟨(sla data2.a 0 data2.cap 1), ((Int.toNat (n26)) - 0), (data2.cap - 0)⟩ w) fun r_74 w_75 =>
  if (!r_74.1) = true then (some ((true, ()), w_75)) else (bnd (book_SameBytes K p27 q28 w_75) fun r_76 w_77 =>
  some (((!r_76.1), ()), w_77))) else none)))
noncomputable def law02_RijndaelBack_s5 (K : Nat) (data2 : Sl) (f25 : Int) (n26 : Int) (v31 : Sl) (w : World) : Option ((Bool × Unit) × World) :=
  (law02_num f25).bind fun r_84 =>
  if (r_84.1 != 0) = true then (some ((true, ()), w)) else (if (0 : Int) ≤ n26 ∧ n26 ≤ ((data2.cap : Nat) : Int) then (bnd (book_SameBytes K v31 ⟨(sla data2.a 0 data2.cap 1), ((Int.toNat (n26)) - 0), (data2.cap - 0)⟩ w) fun r_85 w_86 =>
  some (((!r_85.1), ()), w_86)) else none)
/-- coffer/cofferlaw02.RijndaelBack -/
noncomputable def law02_RijndaelBack {β : Type} (K : Nat) (key0 : Sl) (b1 : Array Value) (data2 : Sl) (w : World) (k : (Bool × Unit) → World → Option β) : Option β :=
  bnd (newB b1 42 w) fun p_1 w_2 =>
  bnd (law02_RijndaelVectors K  w_2) fun r_3 w_4 =>
  if (!r_3.1) = true then (k (false, ()) w_4) else (bnd (rijndael_New K key0 w_4) fun r_5 w_6 =>
  if r_5.1.isNone = true then (bnd (law02_RijndaelBack_s0 K key0 false r_5.2.1 w_6) fun y_8 w_9 =>
  k (y_8.1, ()) w_9) else ((ldA 16 p_1 w_6).bind fun v_10 =>
  bnd (rijndael_Key_Encrypt K r_5.1 v_10 w_6) fun r_11 w_12 =>
  bnd (newB z42 42 w_12) fun p_13 w_14 =>
  if (r_11.1).size = 16 then ((stA p_13 r_11.1 w_14).bind fun w_15 =>
  (ldA 16 p_13 w_15).bind fun v_16 =>
  bnd (rijndael_Key_Decrypt K r_5.1 v_16 w_15) fun r_17 w_18 =>
  bnd (newB z42 42 w_18) fun y_19 w_20 =>
  if (r_17.1).size = 16 then ((stA y_19 r_17.1 w_20).bind fun w_21 =>
  (ldA 16 p_1 w_21).bind fun v_22 =>
  bnd (rijndael_Key_Decrypt K r_5.1 v_22 w_21) fun r_23 w_24 =>
  bnd (newB z42 42 w_24) fun z_25 w_26 =>
  if (r_23.1).size = 16 then ((stA z_25 r_23.1 w_26).bind fun w_27 =>
  (ldA 16 z_25 w_27).bind fun v_28 =>
  bnd (rijndael_Key_Encrypt K r_5.1 v_28 w_27) fun r_29 w_30 =>
  bnd (newB z42 42 w_30) fun w_31 w_32 =>
  if (r_29.1).size = 16 then ((stA w_31 r_29.1 w_32).bind fun w_33 =>
  bnd (law02_RijndaelBack_s1 K p_1 y_19 w_31 w_33) fun y_40 w_41 =>
  if y_40.1 = true then (k (false, ()) w_41) else (bnd (law02_RijndaelBack_s2 K data2 (decide (((data2.len : Nat) : Int) > 4096)) w_41) fun y_42 w_43 =>
  (ldA 16 p_1 w_43).bind fun v_44 =>
  bnd (rijndael_Key_Stream r_5.1 v_44 w_43) fun r_45 w_46 =>
  (ldA 16 p_1 w_46).bind fun v_47 =>
  bnd (rijndael_Key_Stream r_5.1 v_47 w_46) fun r_48 w_49 =>
  (ldA 16 p_13 w_49).bind fun v_50 =>
  bnd (rijndael_Key_Stream r_5.1 v_50 w_49) fun r_51 w_52 =>
  bnd (rijndael_Stream_XOR K r_45.1 y_42.1 w_52) fun r_53 w_54 =>
  bnd (rijndael_Stream_XOR K r_51.1 y_42.1 w_54) fun r_55 w_56 =>
  bnd (rijndael_Stream_XOR K r_48.1 r_53.1 w_56) fun r_57 w_58 =>
  bnd (law02_RijndaelBack_s3 K y_42.1 r_53.2.1 r_45.1 r_57.1 r_57.2.1 w_58) fun y_64 w_65 =>
  if y_64.1 = true then (k (false, ()) w_65) else (if (decide ((IntKind.i64.wrap ((IntKind.i64.wrap (Int.tdiv ((y_42.1.len : Nat) : Int) 8)) * 8)) < 16)) = true then (k (true, ()) w_65) else (if (0 : Int) ≤ (IntKind.i64.wrap ((IntKind.i64.wrap (Int.tdiv ((y_42.1.len : Nat) : Int) 8)) * 8)) ∧ (IntKind.i64.wrap ((IntKind.i64.wrap (Int.tdiv ((y_42.1.len : Nat) : Int) 8)) * 8)) ≤ ((y_42.1.cap : Nat) : Int) then (bnd (rijndael_Wrap K r_5.1 ⟨(sla y_42.1.a 0 y_42.1.cap 1), ((Int.toNat ((IntKind.i64.wrap ((IntKind.i64.wrap (Int.tdiv ((y_42.1.len : Nat) : Int) 8)) * 8)))) - 0), (y_42.1.cap - 0)⟩ w_65) fun r_66 w_67 =>
  if (0 : Int) ≤ (IntKind.i64.wrap ((IntKind.i64.wrap (Int.tdiv ((y_42.1.len : Nat) : Int) 8)) * 8)) ∧ (IntKind.i64.wrap ((IntKind.i64.wrap (Int.tdiv ((y_42.1.len : Nat) : Int) 8)) * 8)) ≤ ((y_42.1.cap : Nat) : Int) then (bnd (rijndael_Wrap K r_5.1 ⟨(sla y_42.1.a 0 y_42.1.cap 1), ((Int.toNat ((IntKind.i64.wrap ((IntKind.i64.wrap (Int.tdiv ((y_42.1.len : Nat) : Int) 8)) * 8)))) - 0), (y_42.1.cap - 0)⟩ w_67) fun r_68 w_69 =>
  rijndael_Unwrap K r_5.1 r_66.1 w_69 fun r_70 w_71 =>
  bnd (law02_RijndaelBack_s4 K y_42.1 r_66.2.1 r_70.2.1 (IntKind.i64.wrap ((IntKind.i64.wrap (Int.tdiv ((y_42.1.len : Nat) : Int) 8)) * 8)) r_66.1 r_68.1 r_70.1 w_71) fun y_78 w_79 =>
  if y_78.1 = true then (k (false, ()) w_79) else (bnd (book_SpoilBytes K r_66.1 w_79) fun r_80 w_81 =>
  rijndael_Unwrap K r_5.1 r_68.1 w_81 fun r_82 w_83 =>
  bnd (law02_RijndaelBack_s5 K y_42.1 r_82.2.1 (IntKind.i64.wrap ((IntKind.i64.wrap (Int.tdiv ((y_42.1.len : Nat) : Int) 8)) * 8)) r_82.1 w_83) fun y_87 w_88 =>
  if y_87.1 = true then (k (false, ()) w_88) else (bnd (book_SpoilBytes K r_70.1 w_88) fun r_89 w_90 =>
  if (0 : Int) ≤ (IntKind.i64.wrap ((IntKind.i64.wrap (Int.tdiv ((y_42.1.len : Nat) : Int) 8)) * 8)) ∧ (IntKind.i64.wrap ((IntKind.i64.wrap (Int.tdiv ((y_42.1.len : Nat) : Int) 8)) * 8)) ≤ ((y_42.1.cap : Nat) : Int) then (bnd (book_SameBytes K r_82.1 ⟨(sla y_42.1.a 0 y_42.1.cap 1), ((Int.toNat ((IntKind.i64.wrap ((IntKind.i64.wrap (Int.tdiv ((y_42.1.len : Nat) : Int) 8)) * 8)))) - 0), (y_42.1.cap - 0)⟩ w_90) fun r_91 w_92 =>
  k (r_91.1, ()) w_92) else none))) else none) else none)))) else none) else none) else none) else none))
theorem law02_RijndaelBack_s0_ok (K : Nat) : StmtNOk prog [(0, .sl), (6, .bool), (8, .int .i64)] [(6, .bool)] [(6, 7), (41, 59)] (fun x w => law02_RijndaelBack_s0 K x.1 x.2.1 x.2.2.1 w) (cd (bodyOf f7) [1, 1, 1, 0, 1, 0, 0]) :=
    mk_stmtN (O := tabL []) (root := (bodyOf f7)) (π := [1, 1, 1, 0, 1, 0, 0]) (Li := [(0, .sl), (6, .bool), (8, .int .i64)]) (Lo := [(6, .bool)]) (S := (fun x w => law02_RijndaelBack_s0 K x.1 x.2.1 x.2.2.1 w)) (law02_RijndaelBack_Eok K) (law02_RijndaelBack_Rok K) rfl (Orc.nil _ _ _) (by kernel_rfl) (fun _ _ => by kernel_rfl)
noncomputable def law02_RijndaelBack_s0_se (K : Nat) : SE := stmtN [(0, .sl), (6, .bool), (8, .int .i64)] [(6, .bool)] [(6, 7), (41, 59)] (fun x w => law02_RijndaelBack_s0 K x.1 x.2.1 x.2.2.1 w)
theorem law02_RijndaelBack_s0_se_ok (K : Nat) (R : Rg) (h : subRB [(6, 7), (41, 59)] R = true) : (law02_RijndaelBack_s0_se K).Ok prog R (cd (bodyOf f7) [1, 1, 1, 0, 1, 0, 0]) := stmtN_ok (Li := [(0, .sl), (6, .bool), (8, .int .i64)]) (Lo := [(6, .bool)]) (S := (fun x w => law02_RijndaelBack_s0 K x.1 x.2.1 x.2.2.1 w)) (law02_RijndaelBack_s0_ok K) (subR_of h)
theorem law02_RijndaelBack_s1_ok (K : Nat) : StmtNOk prog [(4, .addr), (11, .addr), (15, .addr)] [(90, .bool)] [(83, 91)] (fun x w => law02_RijndaelBack_s1 K x.1 x.2.1 x.2.2.1 w) (cd (bodyOf f7) [1, 1, 1, 1, 1, 1, 1, 1, 0, 0]) :=
    mk_stmtN (O := tabL []) (root := (bodyOf f7)) (π := [1, 1, 1, 1, 1, 1, 1, 1, 0, 0]) (Li := [(4, .addr), (11, .addr), (15, .addr)]) (Lo := [(90, .bool)]) (S := (fun x w => law02_RijndaelBack_s1 K x.1 x.2.1 x.2.2.1 w)) (law02_RijndaelBack_Eok K) (law02_RijndaelBack_Rok K) rfl (Orc.nil _ _ _) (by kernel_rfl) (fun _ _ => by kernel_rfl)
noncomputable def law02_RijndaelBack_s1_se (K : Nat) : SE := stmtN [(4, .addr), (11, .addr), (15, .addr)] [(90, .bool)] [(83, 91)] (fun x w => law02_RijndaelBack_s1 K x.1 x.2.1 x.2.2.1 w)
theorem law02_RijndaelBack_s1_se_ok (K : Nat) (R : Rg) (h : subRB [(83, 91)] R = true) : (law02_RijndaelBack_s1_se K).Ok prog R (cd (bodyOf f7) [1, 1, 1, 1, 1, 1, 1, 1, 0, 0]) := stmtN_ok (Li := [(4, .addr), (11, .addr), (15, .addr)]) (Lo := [(90, .bool)]) (S := (fun x w => law02_RijndaelBack_s1 K x.1 x.2.1 x.2.2.1 w)) (law02_RijndaelBack_s1_ok K) (subR_of h)
theorem law02_RijndaelBack_s2_ok (K : Nat) : StmtNOk prog [(2, .sl), (93, .bool)] [(2, .sl)] [(2, 3), (94, 96)] (fun x w => law02_RijndaelBack_s2 K x.1 x.2.1 w) (cd (bodyOf f7) [1, 1, 1, 1, 1, 1, 1, 1, 1, 0, 1]) :=
    mk_stmtN (O := tabL []) (root := (bodyOf f7)) (π := [1, 1, 1, 1, 1, 1, 1, 1, 1, 0, 1]) (Li := [(2, .sl), (93, .bool)]) (Lo := [(2, .sl)]) (S := (fun x w => law02_RijndaelBack_s2 K x.1 x.2.1 w)) (law02_RijndaelBack_Eok K) (law02_RijndaelBack_Rok K) rfl (Orc.nil _ _ _) (by kernel_rfl) (fun _ _ => by kernel_rfl)
noncomputable def law02_RijndaelBack_s2_se (K : Nat) : SE := stmtN [(2, .sl), (93, .bool)] [(2, .sl)] [(2, 3), (94, 96)] (fun x w => law02_RijndaelBack_s2 K x.1 x.2.1 w)
theorem law02_RijndaelBack_s2_se_ok (K : Nat) (R : Rg) (h : subRB [(2, 3), (94, 96)] R = true) : (law02_RijndaelBack_s2_se K).Ok prog R (cd (bodyOf f7) [1, 1, 1, 1, 1, 1, 1, 1, 1, 0, 1]) := stmtN_ok (Li := [(2, .sl), (93, .bool)]) (Lo := [(2, .sl)]) (S := (fun x w => law02_RijndaelBack_s2 K x.1 x.2.1 w)) (law02_RijndaelBack_s2_ok K) (subR_of h)
theorem law02_RijndaelBack_s3_ok (K : Nat) : StmtNOk prog [(2, .sl), (8, .int .i64), (17, .ptr), (24, .sl), (25, .int .i64)] [(150, .bool)] [(129, 151)] (fun x w => law02_RijndaelBack_s3 K x.1 x.2.1 x.2.2.1 x.2.2.2.1 x.2.2.2.2.1 w) (cd (bodyOf f7) [1, 1, 1, 1, 1, 1, 1, 1, 1, 1, 1, 1, 1, 1, 1, 1, 0, 0]) :=
    mk_stmtN (O := tabL []) (root := (bodyOf f7)) (π := [1, 1, 1, 1, 1, 1, 1, 1, 1, 1, 1, 1, 1, 1, 1, 1, 0, 0]) (Li := [(2, .sl), (8, .int .i64), (17, .ptr), (24, .sl), (25, .int .i64)]) (Lo := [(150, .bool)]) (S := (fun x w => law02_RijndaelBack_s3 K x.1 x.2.1 x.2.2.1 x.2.2.2.1 x.2.2.2.2.1 w)) (law02_RijndaelBack_Eok K) (law02_RijndaelBack_Rok K) rfl (Orc.nil _ _ _) (by kernel_rfl) (fun _ _ => by kernel_rfl)
noncomputable def law02_RijndaelBack_s3_se (K : Nat) : SE := stmtN [(2, .sl), (8, .int .i64), (17, .ptr), (24, .sl), (25, .int .i64)] [(150, .bool)] [(129, 151)] (fun x w => law02_RijndaelBack_s3 K x.1 x.2.1 x.2.2.1 x.2.2.2.1 x.2.2.2.2.1 w)
theorem law02_RijndaelBack_s3_se_ok (K : Nat) (R : Rg) (h : subRB [(129, 151)] R = true) : (law02_RijndaelBack_s3_se K).Ok prog R (cd (bodyOf f7) [1, 1, 1, 1, 1, 1, 1, 1, 1, 1, 1, 1, 1, 1, 1, 1, 0, 0]) := stmtN_ok (Li := [(2, .sl), (8, .int .i64), (17, .ptr), (24, .sl), (25, .int .i64)]) (Lo := [(150, .bool)]) (S := (fun x w => law02_RijndaelBack_s3 K x.1 x.2.1 x.2.2.1 x.2.2.2.1 x.2.2.2.2.1 w)) (law02_RijndaelBack_s3_ok K) (subR_of h)
theorem law02_RijndaelBack_s4_ok (K : Nat) : StmtNOk prog [(2, .sl), (8, .int .i64), (25, .int .i64), (26, .int .i64), (27, .sl), (28, .sl), (30, .sl)] [(207, .bool)] [(179, 208)] (fun x w => law02_RijndaelBack_s4 K x.1 x.2.1 x.2.2.1 x.2.2.2.1 x.2.2.2.2.1 x.2.2.2.2.2.1 x.2.2.2.2.2.2.1 w) (cd (bodyOf f7) [1, 1, 1, 1, 1, 1, 1, 1, 1, 1, 1, 1, 1, 1, 1, 1, 1, 1, 1, 1, 1, 1, 0, 0]) :=
    mk_stmtN (O := tabL []) (root := (bodyOf f7)) (π := [1, 1, 1, 1, 1, 1, 1, 1, 1, 1, 1, 1, 1, 1, 1, 1, 1, 1, 1, 1, 1, 1, 0, 0]) (Li := [(2, .sl), (8, .int .i64), (25, .int .i64), (26, .int .i64), (27, .sl), (28, .sl), (30, .sl)]) (Lo := [(207, .bool)]) (S := (fun x w => law02_RijndaelBack_s4 K x.1 x.2.1 x.2.2.1 x.2.2.2.1 x.2.2.2.2.1 x.2.2.2.2.2.1 x.2.2.2.2.2.2.1 w)) (law02_RijndaelBack_Eok K) (law02_RijndaelBack_Rok K) rfl (Orc.nil _ _ _) (by kernel_rfl) (fun _ _ => by kernel_rfl)
noncomputable def law02_RijndaelBack_s4_se (K : Nat) : SE := stmtN [(2, .sl), (8, .int .i64), (25, .int .i64), (26, .int .i64), (27, .sl), (28, .sl), (30, .sl)] [(207, .bool)] [(179, 208)] (fun x w => law02_RijndaelBack_s4 K x.1 x.2.1 x.2.2.1 x.2.2.2.1 x.2.2.2.2.1 x.2.2.2.2.2.1 x.2.2.2.2.2.2.1 w)
theorem law02_RijndaelBack_s4_se_ok (K : Nat) (R : Rg) (h : subRB [(179, 208)] R = true) : (law02_RijndaelBack_s4_se K).Ok prog R (cd (bodyOf f7) [1, 1, 1, 1, 1, 1, 1, 1, 1, 1, 1, 1, 1, 1, 1, 1, 1, 1, 1, 1, 1, 1, 0, 0]) := stmtN_ok (Li := [(2, .sl), (8, .int .i64), (25, .int .i64), (26, .int .i64), (27, .sl), (28, .sl), (30, .sl)]) (Lo := [(207, .bool)]) (S := (fun x w => law02_RijndaelBack_s4 K x.1 x.2.1 x.2.2.1 x.2.2.2.1 x.2.2.2.2.1 x.2.2.2.2.2.1 x.2.2.2.2.2.2.1 w)) (law02_RijndaelBack_s4_ok K) (subR_of h)
theorem law02_RijndaelBack_s5_ok (K : Nat) : StmtNOk prog [(2, .sl), (25, .int .i64), (26, .int .i64), (31, .sl)] [(226, .bool)] [(216, 227)] (fun x w => law02_RijndaelBack_s5 K x.1 x.2.1 x.2.2.1 x.2.2.2.1 w) (cd (bodyOf f7) [1, 1, 1, 1, 1, 1, 1, 1, 1, 1, 1, 1, 1, 1, 1, 1, 1, 1, 1, 1, 1, 1, 1, 1, 1, 0, 0]) :=
    mk_stmtN (O := tabL []) (root := (bodyOf f7)) (π := [1, 1, 1, 1, 1, 1, 1, 1, 1, 1, 1, 1, 1, 1, 1, 1, 1, 1, 1, 1, 1, 1, 1, 1, 1, 0, 0]) (Li := [(2, .sl), (25, .int .i64), (26, .int .i64), (31, .sl)]) (Lo := [(226, .bool)]) (S := (fun x w => law02_RijndaelBack_s5 K x.1 x.2.1 x.2.2.1 x.2.2.2.1 w)) (law02_RijndaelBack_Eok K) (law02_RijndaelBack_Rok K) rfl (Orc.nil _ _ _) (by kernel_rfl) (fun _ _ => by kernel_rfl)
noncomputable def law02_RijndaelBack_s5_se (K : Nat) : SE := stmtN [(2, .sl), (25, .int .i64), (26, .int .i64), (31, .sl)] [(226, .bool)] [(216, 227)] (fun x w => law02_RijndaelBack_s5 K x.1 x.2.1 x.2.2.1 x.2.2.2.1 w)
theorem law02_RijndaelBack_s5_se_ok (K : Nat) (R : Rg) (h : subRB [(216, 227)] R = true) : (law02_RijndaelBack_s5_se K).Ok prog R (cd (bodyOf f7) [1, 1, 1, 1, 1, 1, 1, 1, 1, 1, 1, 1, 1, 1, 1, 1, 1, 1, 1, 1, 1, 1, 1, 1, 1, 0, 0]) := stmtN_ok (Li := [(2, .sl), (25, .int .i64), (26, .int .i64), (31, .sl)]) (Lo := [(226, .bool)]) (S := (fun x w => law02_RijndaelBack_s5 K x.1 x.2.1 x.2.2.1 x.2.2.2.1 w)) (law02_RijndaelBack_s5_ok K) (subR_of h)
theorem law02_RijndaelBack_facts : FunFacts prog 7 f7 (bodyOf f7) [(0, .sl), (1, .agg), (2, .sl)] [(0, 234)] := ⟨func7, by kernel_rfl, by kernel_rfl, by kernel_rfl, by kernel_rfl, by kernel_rfl⟩
theorem law02_RijndaelBack_calls (K : Nat) {β : Type} (x : TT [(0, .sl), (1, .agg), (2, .sl)]) (w : World) (k : TR [.bool] → World → Option β) (r : β) (h : law02_RijndaelBack K x.1 x.2.1 x.2.2.1 w k = some r) : Calls prog 7 (encA [(0, .sl), (1, .agg), (2, .sl)] x).toArray w (fun e w3 => ∃ y, e = .returned (resV (encR [.bool] y)) ∧ k y w3 = some r) :=
    mk_funC (O := tabL [([1, 1, 1, 0, 1, 0, 0], law02_RijndaelBack_s0_se K), ([1, 1, 1, 1, 1, 1, 1, 1, 0, 0], law02_RijndaelBack_s1_se K), ([1, 1, 1, 1, 1, 1, 1, 1, 1, 0, 1], law02_RijndaelBack_s2_se K), ([1, 1, 1, 1, 1, 1, 1, 1, 1, 1, 1, 1, 1, 1, 1, 1, 0, 0], law02_RijndaelBack_s3_se K), ([1, 1, 1, 1, 1, 1, 1, 1, 1, 1, 1, 1, 1, 1, 1, 1, 1, 1, 1, 1, 1, 1, 0, 0], law02_RijndaelBack_s4_se K), ([1, 1, 1, 1, 1, 1, 1, 1, 1, 1, 1, 1, 1, 1, 1, 1, 1, 1, 1, 1, 1, 1, 1, 1, 1, 0, 0], law02_RijndaelBack_s5_se K)]) (Lp := [(0, .sl), (1, .agg), (2, .sl)]) (Rt := [.bool]) (S := (fun x w k => law02_RijndaelBack K x.1 x.2.1 x.2.2.1 w k)) (law02_RijndaelBack_Eok K) (law02_RijndaelBack_Rok K) rfl law02_RijndaelBack_facts (Orc.cons (by kernel_rfl) (law02_RijndaelBack_s0_se_ok K [(0, 234)] (by kernel_rfl)) (Orc.cons (by kernel_rfl) (law02_RijndaelBack_s1_se_ok K [(0, 234)] (by kernel_rfl)) (Orc.cons (by kernel_rfl) (law02_RijndaelBack_s2_se_ok K [(0, 234)] (by kernel_rfl)) (Orc.cons (by kernel_rfl) (law02_RijndaelBack_s3_se_ok K [(0, 234)] (by kernel_rfl)) (Orc.cons (by kernel_rfl) (law02_RijndaelBack_s4_se_ok K [(0, 234)] (by kernel_rfl)) (Orc.cons (by kernel_rfl) (law02_RijndaelBack_s5_se_ok K [(0, 234)] (by kernel_rfl)) (Orc.nil _ _ _))))))) (fun _ _ _ => by kernel_rfl) x w k r h
noncomputable def law02_RijndaelBack_ce (K : Nat) : CE := funC [(0, .sl), (1, .agg), (2, .sl)] [.bool] (fun {_} x w k => law02_RijndaelBack K x.1 x.2.1 x.2.2.1 w k)
theorem law02_RijndaelBack_ok (K : Nat) : (law02_RijndaelBack_ce K).Ok prog 7 := funC_ok (Rt := [.bool]) (S := (fun {_} x w k => law02_RijndaelBack K x.1 x.2.1 x.2.2.1 w k)) law02_RijndaelBack_facts fun x w k r h => law02_RijndaelBack_calls K x w k r h

noncomputable def law02_book_stream_E : List (Nat × CE) := []
theorem law02_book_stream_Eok : Env.Ok prog (tab (law02_book_stream_E)) := (Env.nil _)
noncomputable def law02_book_stream_R : List (Nat × RE) := []
theorem law02_book_stream_Rok : REnv.Ok prog (tab (law02_book_stream_R)) := (REnv.nil _)
noncomputable def law02_book_stream_s0 (b0 : Option Addr) (a1 : Int) (w : World) : Option ((Bool × Unit) × World) :=
  (b0).bind fun p_3 =>
  (ldS (p_3.add 2) w).bind fun v_4 =>
  if (((v_4.len : Nat) : Int) == 0) = true then (some ((true, ()), w)) else (some (((decide (a1 < 0)), ()), w))
/-- (*coffer/cofferlaw02.book).stream -/
noncomputable def law02_book_stream (b0 : Option Addr) (a1 : Int) (w : World) : Option (((Array Value) × Unit) × World) :=
  bnd (newB z115 115 w) fun p_1 w_2 =>
  bnd (law02_book_stream_s0 b0 a1 w_2) fun y_5 w_6 =>
  if y_5.1 = true then ((prog.built 115 []).bind fun cs_7 =>
  if (cs_7).size = 2 then ((stA p_1 cs_7 w_6).bind fun w_8 =>
  (ldA 2 p_1 w_8).bind fun res_9 =>
  some ((res_9, ()), w_8)) else none) else ((b0).bind fun p_10 =>
  (b0).bind fun p_11 =>
  (ldS (p_10.add 2) w_6.drew).bind fun v_12 =>
  (ldS (p_11.add 2) w_6.drew).bind fun v_13 =>
  if ((v_13.len : Nat) : Int) ≠ 0 then ((v_12.a).bind fun p_14 =>
  if (0 : Int) ≤ (Int.tmod a1 ((v_13.len : Nat) : Int)) ∧ (Int.tmod a1 ((v_13.len : Nat) : Int)) < ((v_12.len : Nat) : Int) then ((ldA 2 (p_14.add ((Int.toNat (Int.tmod a1 ((v_13.len : Nat) : Int))) * 2)) w_6.drew).bind fun v_15 =>
  if (v_15).size = 2 then ((stA p_1 v_15 w_6.drew).bind fun w_16 =>
  (ldA 2 p_1 w_16).bind fun res_17 =>
  some ((res_17, ()), w_16)) else none) else none) else none)
theorem law02_book_stream_s0_ok : StmtNOk prog [(0, .ptr), (1, .int .i64)] [(14, .bool)] [(5, 15)] (fun x w => law02_book_stream_s0 x.1 x.2.1 w) (cd (bodyOf f52) [1, 0, 0]) :=
    mk_stmtN (O := tabL []) (root := (bodyOf f52)) (π := [1, 0, 0]) (Li := [(0, .ptr), (1, .int .i64)]) (Lo := [(14, .bool)]) (S := (fun x w => law02_book_stream_s0 x.1 x.2.1 w)) (law02_book_stream_Eok) (law02_book_stream_Rok) rfl (Orc.nil _ _ _) (by kernel_rfl) (fun _ _ => by kernel_rfl)
noncomputable def law02_book_stream_s0_se : SE := stmtN [(0, .ptr), (1, .int .i64)] [(14, .bool)] [(5, 15)] (fun x w => law02_book_stream_s0 x.1 x.2.1 w)
theorem law02_book_stream_s0_se_ok (R : Rg) (h : subRB [(5, 15)] R = true) : (law02_book_stream_s0_se).Ok prog R (cd (bodyOf f52) [1, 0, 0]) := stmtN_ok (Li := [(0, .ptr), (1, .int .i64)]) (Lo := [(14, .bool)]) (S := (fun x w => law02_book_stream_s0 x.1 x.2.1 w)) (law02_book_stream_s0_ok) (subR_of h)
theorem law02_book_stream_facts : FunFacts prog 52 f52 (bodyOf f52) [(0, .ptr), (1, .int .i64)] [(0, 29)] := ⟨func52, by kernel_rfl, by kernel_rfl, by kernel_rfl, by kernel_rfl, by kernel_rfl⟩
theorem law02_book_stream_calls (x : TT [(0, .ptr), (1, .int .i64)]) (w : World) (y : TR [.agg]) (w2 : World) (h : law02_book_stream x.1 x.2.1 w = some (y, w2)) : Calls prog 52 (encA [(0, .ptr), (1, .int .i64)] x).toArray w (fun e w3 => e = .returned (resV (encR [.agg] y)) ∧ w3 = w2) :=
    mk_fun (O := tabL [([1, 0, 0], law02_book_stream_s0_se)]) (Lp := [(0, .ptr), (1, .int .i64)]) (Rt := [.agg]) (S := (fun x w => law02_book_stream x.1 x.2.1 w)) (law02_book_stream_Eok) (law02_book_stream_Rok) rfl law02_book_stream_facts (Orc.cons (by kernel_rfl) (law02_book_stream_s0_se_ok [(0, 29)] (by kernel_rfl)) (Orc.nil _ _ _)) (fun _ _ => by kernel_rfl) x w y w2 h
noncomputable def law02_book_stream_ce : CE := funE [(0, .ptr), (1, .int .i64)] [.agg] (fun x w => law02_book_stream x.1 x.2.1 w)
theorem law02_book_stream_ok : (law02_book_stream_ce).Ok prog 52 := funE_ok (Rt := [.agg]) (S := (fun x w => law02_book_stream x.1 x.2.1 w)) law02_book_stream_facts fun x w y w2 h => law02_book_stream_calls x w y w2 h

noncomputable def ref02_plus_E (K : Nat) : List (Nat × CE) := []
theorem ref02_plus_Eok (K : Nat) : Env.Ok prog (tab (ref02_plus_E K)) := (Env.nil _)
noncomputable def ref02_plus_R (K : Nat) : List (Nat × RE) := []
theorem ref02_plus_Rok (K : Nat) : REnv.Ok prog (tab (ref02_plus_R K)) := (REnv.nil _)
noncomputable def ref02_plus_l0_b (K : Nat) (rec : Int → Addr → Addr → Int → World → Option ((Unit) × World)) (n1 : Int) (b2 : Addr) (a4 : Addr) (i5 : Int) (w : World) : Option ((Unit) × World) :=
  if (decide (i5 ≥ 0)) = true then (if (0 : Int) ≤ i5 ∧ i5 < ((16 : Nat) : Int) then ((ldI .u8 (b2.add ((Int.toNat i5) * 1)) w).bind fun v_5 =>
  if (0 : Int) ≤ i5 ∧ i5 < ((16 : Nat) : Int) then ((stC (b2.add ((Int.toNat i5) * 1)) (.int .u8 (IntKind.u8.wrap (Int.tmod (IntKind.u64.wrap ((IntKind.u64.wrap v_5) + (Int.tmod n1 256))) 256))) w).bind fun w_6 =>
  rec (IntKind.u64.wrap ((IntKind.u64.wrap (Int.tdiv n1 256)) + (IntKind.u64.wrap (Int.tdiv (IntKind.u64.wrap ((IntKind.u64.wrap v_5) + (Int.tmod n1 256))) 256)))) b2 a4 (IntKind.i64.wrap (i5 - 1)) w_6) else none) else none) else (some ((), w))
noncomputable def ref02_plus_l0 (K : Nat) (n : Nat) : Int → Addr → Addr → Int → World → Option ((Unit) × World) := iter (fun _ _ _ _ _ => none) (ref02_plus_l0_b K) n
/-- coffer/cofferref02.plus -/
noncomputable def ref02_plus (K : Nat) (b0 : Array Value) (n1 : Int) (w : World) : Option (((Array Value) × Unit) × World) :=
  bnd (newB b0 41 w) fun p_1 w_2 =>
  bnd (newB z41 41 w_2) fun p_3 w_4 =>
  bnd (ref02_plus_l0 K K n1 p_1 p_3 15 w_4) fun y_7 w_8 =>
  (ldA 16 p_1 w_8).bind fun v_9 =>
  if (v_9).size = 16 then ((stA p_3 v_9 w_8).bind fun w_10 =>
  (ldA 16 p_3 w_10).bind fun res_11 =>
  some ((res_11, ()), w_10)) else none
theorem ref02_plus_l0_ok (K : Nat) (n : Nat) : StmtNOk prog [(1, .int .u64), (2, .addr), (4, .addr), (5, .int .i64)] [] [(1, 2), (5, 28)] ((fun n x w => ref02_plus_l0 K n x.1 x.2.1 x.2.2.1 x.2.2.2.1 w) n) (.block 0 (.loop (cd (bodyOf f70) [1, 0, 1, 0, 0]))) :=
    mk_loopN (O := tabL []) (root := (bodyOf f70)) (π := [1, 0, 1, 0, 0]) (id := 0) (Li := [(1, .int .u64), (2, .addr), (4, .addr), (5, .int .i64)]) (Lo := []) (S := (fun n x w => ref02_plus_l0 K n x.1 x.2.1 x.2.2.1 x.2.2.2.1 w)) (body := cd (bodyOf f70) [1, 0, 1, 0, 0]) (ref02_plus_Eok K) (ref02_plus_Rok K) rfl (Orc.nil _ _ _) (by kernel_rfl) (fun _ _ => by kernel_rfl) (fun _ _ _ => by kernel_rfl) n
noncomputable def ref02_plus_l0_se (K : Nat) : SE := stmtN [(1, .int .u64), (2, .addr), (4, .addr), (5, .int .i64)] [] [(1, 2), (5, 28)] (fun x w => ref02_plus_l0 K K x.1 x.2.1 x.2.2.1 x.2.2.2.1 w)
theorem ref02_plus_l0_se_ok (K : Nat) (R : Rg) (h : subRB [(1, 2), (5, 28)] R = true) : (ref02_plus_l0_se K).Ok prog R (.block 0 (.loop (cd (bodyOf f70) [1, 0, 1, 0, 0]))) := stmtN_ok (Li := [(1, .int .u64), (2, .addr), (4, .addr), (5, .int .i64)]) (Lo := []) (S := (fun x w => ref02_plus_l0 K K x.1 x.2.1 x.2.2.1 x.2.2.2.1 w)) (ref02_plus_l0_ok K K) (subR_of h)
theorem ref02_plus_facts : FunFacts prog 70 f70 (bodyOf f70) [(0, .agg), (1, .int .u64)] [(0, 29)] := ⟨func70, by kernel_rfl, by kernel_rfl, by kernel_rfl, by kernel_rfl, by kernel_rfl⟩
theorem ref02_plus_calls (K : Nat) (x : TT [(0, .agg), (1, .int .u64)]) (w : World) (y : TR [.agg]) (w2 : World) (h : ref02_plus K x.1 x.2.1 w = some (y, w2)) : Calls prog 70 (encA [(0, .agg), (1, .int .u64)] x).toArray w (fun e w3 => e = .returned (resV (encR [.agg] y)) ∧ w3 = w2) :=
    mk_fun (O := tabL [([1, 0, 1], ref02_plus_l0_se K)]) (Lp := [(0, .agg), (1, .int .u64)]) (Rt := [.agg]) (S := (fun x w => ref02_plus K x.1 x.2.1 w)) (ref02_plus_Eok K) (ref02_plus_Rok K) rfl ref02_plus_facts (Orc.cons (by kernel_rfl) (ref02_plus_l0_se_ok K [(0, 29)] (by kernel_rfl)) (Orc.nil _ _ _)) (fun _ _ => by kernel_rfl) x w y w2 h
noncomputable def ref02_plus_ce (K : Nat) : CE := funE [(0, .agg), (1, .int .u64)] [.agg] (fun x w => ref02_plus K x.1 x.2.1 w)
theorem ref02_plus_ok (K : Nat) : (ref02_plus_ce K).Ok prog 70 := funE_ok (Rt := [.agg]) (S := (fun x w => ref02_plus K x.1 x.2.1 w)) ref02_plus_facts fun x w y w2 h => ref02_plus_calls K x w y w2 h

noncomputable def law02_lists_E (K : Nat) : List (Nat × CE) := [(31, book_SameBytes_ce K), (13, book_WholeBytes_ce K)]
theorem law02_lists_Eok (K : Nat) : Env.Ok prog (tab (law02_lists_E K)) := (Env.cons (book_SameBytes_ok K) (Env.cons (book_WholeBytes_ok K) (Env.nil _)))
noncomputable def law02_lists_R (K : Nat) : List (Nat × RE) := []
theorem law02_lists_Rok (K : Nat) : REnv.Ok prog (tab (law02_lists_R K)) := (REnv.nil _)
/-- coffer/cofferlaw02.lists -/
noncomputable def law02_lists (K : Nat) (a0 : Sl) (e1 : Int) (b2 : Sl) (f3 : Int) (own4 : Sl) (data5 : Sl) (w : World) : Option ((Bool × Unit) × World) :=
  if (e1 == f3) = true then (bnd (book_SameBytes K a0 b2 w) fun r_1 w_2 =>
  if r_1.1 = true then (bnd (book_WholeBytes K own4 data5 w_2) fun r_3 w_4 =>
  some ((r_3.1, ()), w_4)) else (some ((false, ()), w_2))) else (some ((false, ()), w))
theorem law02_lists_facts : FunFacts prog 54 f54 (bodyOf f54) [(0, .sl), (1, .int .i64), (2, .sl), (3, .int .i64), (4, .sl), (5, .sl)] [(0, 26)] := ⟨func54, by kernel_rfl, by kernel_rfl, by kernel_rfl, by kernel_rfl, by kernel_rfl⟩
theorem law02_lists_calls (K : Nat) (x : TT [(0, .sl), (1, .int .i64), (2, .sl), (3, .int .i64), (4, .sl), (5, .sl)]) (w : World) (y : TR [.bool]) (w2 : World) (h : law02_lists K x.1 x.2.1 x.2.2.1 x.2.2.2.1 x.2.2.2.2.1 x.2.2.2.2.2.1 w = some (y, w2)) : Calls prog 54 (encA [(0, .sl), (1, .int .i64), (2, .sl), (3, .int .i64), (4, .sl), (5, .sl)] x).toArray w (fun e w3 => e = .returned (resV (encR [.bool] y)) ∧ w3 = w2) :=
    mk_fun (O := tabL []) (Lp := [(0, .sl), (1, .int .i64), (2, .sl), (3, .int .i64), (4, .sl), (5, .sl)]) (Rt := [.bool]) (S := (fun x w => law02_lists K x.1 x.2.1 x.2.2.1 x.2.2.2.1 x.2.2.2.2.1 x.2.2.2.2.2.1 w)) (law02_lists_Eok K) (law02_lists_Rok K) rfl law02_lists_facts (Orc.nil _ _ _) (fun _ _ => by kernel_rfl) x w y w2 h
noncomputable def law02_lists_ce (K : Nat) : CE := funE [(0, .sl), (1, .int .i64), (2, .sl), (3, .int .i64), (4, .sl), (5, .sl)] [.bool] (fun x w => law02_lists K x.1 x.2.1 x.2.2.1 x.2.2.2.1 x.2.2.2.2.1 x.2.2.2.2.2.1 w)
theorem law02_lists_ok (K : Nat) : (law02_lists_ce K).Ok prog 54 := funE_ok (Rt := [.bool]) (S := (fun x w => law02_lists K x.1 x.2.1 x.2.2.1 x.2.2.2.1 x.2.2.2.2.1 x.2.2.2.2.2.1 w)) law02_lists_facts fun x w y w2 h => law02_lists_calls K x w y w2 h

noncomputable def law02_at_E : List (Nat × CE) := []
theorem law02_at_Eok : Env.Ok prog (tab (law02_at_E)) := (Env.nil _)
noncomputable def law02_at_R : List (Nat × RE) := [(34, rijndael_Stream_At_re)]
theorem law02_at_Rok : REnv.Ok prog (tab (law02_at_R)) := (REnv.cons (rijndael_Stream_At_ok) (REnv.nil _))
/-- coffer/cofferlaw02.at -/
noncomputable def law02_at (p0 : Array Value) (w : World) : Option ((Bool × Unit) × World) :=
  bnd (newB p0 115 w) fun p_1 w_2 =>
  (ldP (p_1.add 1) w_2).bind fun v_3 =>
  if v_3.isNone = true then ((ldP (p_1.add 0) w_2).bind fun v_4 =>
  (rijndael_Stream_At v_4 w_2).bind fun r_5 =>
  some (((r_5.1 == 0), ()), w_2)) else ((ldP (p_1.add 0) w_2.drew).bind fun v_6 =>
  (rijndael_Stream_At v_6 w_2.drew).bind fun r_7 =>
  (ldP (p_1.add 1) w_2.drew).bind fun v_8 =>
  (v_8).bind fun p_9 =>
  (ldI .u64 (p_9.add 17) w_2.drew).bind fun v_10 =>
  some (((r_7.1 == v_10), ()), w_2.drew))
theorem law02_at_facts : FunFacts prog 55 f55 (bodyOf f55) [(0, .agg)] [(0, 19)] := ⟨func55, by kernel_rfl, by kernel_rfl, by kernel_rfl, by kernel_rfl, by kernel_rfl⟩
theorem law02_at_calls (x : TT [(0, .agg)]) (w : World) (y : TR [.bool]) (w2 : World) (h : law02_at x.1 w = some (y, w2)) : Calls prog 55 (encA [(0, .agg)] x).toArray w (fun e w3 => e = .returned (resV (encR [.bool] y)) ∧ w3 = w2) :=
    mk_fun (O := tabL []) (Lp := [(0, .agg)]) (Rt := [.bool]) (S := (fun x w => law02_at x.1 w)) (law02_at_Eok) (law02_at_Rok) rfl law02_at_facts (Orc.nil _ _ _) (fun _ _ => by kernel_rfl) x w y w2 h
noncomputable def law02_at_ce : CE := funE [(0, .agg)] [.bool] (fun x w => law02_at x.1 w)
theorem law02_at_ok : (law02_at_ce).Ok prog 55 := funE_ok (Rt := [.bool]) (S := (fun x w => law02_at x.1 w)) law02_at_facts fun x w y w2 h => law02_at_calls x w y w2 h

end Go.Sh

/- What functions of the program do, as Lean functions; that the machine does just that. Printed by shal.py, a program of this claim's writer. -/
set_option maxRecDepth 100000
set_option linter.unusedVariables false
namespace Go.Sh
open Go.Fw Go.Proofs.Tryd

noncomputable def ref02_Stream_Skip_E : List (Nat × CE) := []
theorem ref02_Stream_Skip_Eok : Env.Ok prog (tab (ref02_Stream_Skip_E)) := (Env.nil _)
noncomputable def ref02_Stream_Skip_R : List (Nat × RE) := []
theorem ref02_Stream_Skip_Rok : REnv.Ok prog (tab (ref02_Stream_Skip_R)) := (REnv.nil _)
/-- (*coffer/cofferref02.Stream).Skip -/
noncomputable def ref02_Stream_Skip (s0 : Option Addr) (n1 : Int) (w : World) : Option ((Int × Unit) × World) :=
  if s0.isNone = true then (some ((1, ()), w)) else ((s0).bind fun p_1 =>
  (ldP (p_1.add 0) w).bind fun v_2 =>
  (v_2).bind fun p_3 =>
  (ldB (p_3.add 4610) w).bind fun v_4 =>
  if v_4 = true then (some ((21, ()), w)) else ((s0).bind fun p_5 =>
  (ldI .u64 (p_5.add 17) w).bind fun v_6 =>
  if (decide (n1 > (IntKind.u64.wrap (1099511627776 - v_6)))) = true then (some ((4, ()), w)) else ((s0).bind fun p_7 =>
  (ldI .u64 (p_7.add 17) w).bind fun v_8 =>
  (s0).bind fun p_9 =>
  (stC (p_9.add 17) (.int .u64 (IntKind.u64.wrap (v_8 + n1))) w).bind fun w_10 =>
  some ((0, ()), w_10))))
theorem ref02_Stream_Skip_facts : FunFacts prog 56 f56 (bodyOf f56) [(0, .ptr), (1, .int .u64)] [(0, 30)] := ⟨func56, by kernel_rfl, by kernel_rfl, by kernel_rfl, by kernel_rfl, by kernel_rfl⟩
theorem ref02_Stream_Skip_calls (x : TT [(0, .ptr), (1, .int .u64)]) (w : World) (y : TR [.int .i64]) (w2 : World) (h : ref02_Stream_Skip x.1 x.2.1 w = some (y, w2)) : Calls prog 56 (encA [(0, .ptr), (1, .int .u64)] x).toArray w (fun e w3 => e = .returned (resV (encR [.int .i64] y)) ∧ w3 = w2) :=
    mk_fun (O := tabL []) (Lp := [(0, .ptr), (1, .int .u64)]) (Rt := [.int .i64]) (S := (fun x w => ref02_Stream_Skip x.1 x.2.1 w)) (ref02_Stream_Skip_Eok) (ref02_Stream_Skip_Rok) rfl ref02_Stream_Skip_facts (Orc.nil _ _ _) (fun _ _ => by kernel_rfl) x w y w2 h
noncomputable def ref02_Stream_Skip_ce : CE := funE [(0, .ptr), (1, .int .u64)] [.int .i64] (fun x w => ref02_Stream_Skip x.1 x.2.1 w)
theorem ref02_Stream_Skip_ok : (ref02_Stream_Skip_ce).Ok prog 56 := funE_ok (Rt := [.int .i64]) (S := (fun x w => ref02_Stream_Skip x.1 x.2.1 w)) ref02_Stream_Skip_facts fun x w y w2 h => ref02_Stream_Skip_calls x w y w2 h

noncomputable def law02_book_gone_R : List (Nat × RE) := []
theorem law02_book_gone_Rok : REnv.Ok prog (tab (law02_book_gone_R)) := (REnv.nil _)
/-- (*coffer/cofferlaw02.book).gone -/
noncomputable def law02_book_gone (b0 : Option Addr) (w : World) : Option (Int × Unit) :=
  (b0).bind fun p_1 =>
  (ldP (p_1.add 1) w).bind fun v_2 =>
  if v_2.isNone = true then (some (1, ())) else ((b0).bind fun p_3 =>
  (ldP (p_3.add 1) w).bind fun v_4 =>
  (v_4).bind fun p_5 =>
  (ldB (p_5.add 4610) w).bind fun v_6 =>
  if v_6 = true then (some (21, ())) else (some (0, ())))
theorem law02_book_gone_facts : FunFacts prog 57 f57 (bodyOf f57) [(0, .ptr)] [(0, 15)] := ⟨func57, by kernel_rfl, by kernel_rfl, by kernel_rfl, by kernel_rfl, by kernel_rfl⟩
theorem law02_book_gone_calls (x : TT [(0, .ptr)]) (w : World) (y : TR [.int .i64]) (h : law02_book_gone x.1 w = some y) : Calls prog 57 (encA [(0, .ptr)] x).toArray w (fun e w3 => e = .returned (resV (encR [.int .i64] y)) ∧ w3 = w) :=
    mk_funQ (O := tabL []) (Lp := [(0, .ptr)]) (Rt := [.int .i64]) (S := (fun x w => law02_book_gone x.1 w)) (law02_book_gone_Rok) law02_book_gone_facts (OrcQ.nil _ _ _) (fun _ _ => by kernel_rfl) x w y h
noncomputable def law02_book_gone_re : RE := funR [(0, .ptr)] [.int .i64] (fun x w => law02_book_gone x.1 w)
theorem law02_book_gone_ok : (law02_book_gone_re).Ok prog 57 := funR_ok (Rt := [.int .i64]) (S := (fun x w => law02_book_gone x.1 w)) law02_book_gone_facts fun x w y h => law02_book_gone_calls x w y h

noncomputable def ref02_number_E (K : Nat) : List (Nat × CE) := []
theorem ref02_number_Eok (K : Nat) : Env.Ok prog (tab (ref02_number_E K)) := (Env.nil _)
noncomputable def ref02_number_R (K : Nat) : List (Nat × RE) := []
theorem ref02_number_Rok (K : Nat) : REnv.Ok prog (tab (ref02_number_R K)) := (REnv.nil _)
noncomputable def ref02_number_l0_b (K : Nat) (rec : Int → Addr → Addr → Int → World → Option ((Unit) × World)) (n0 : Int) (a2 : Addr) (b3 : Addr) (i4 : Int) (w : World) : Option ((Unit) × World) :=
  if (decide (i4 ≥ 0)) = true then (if (0 : Int) ≤ i4 ∧ i4 < ((8 : Nat) : Int) then ((stC (b3.add ((Int.toNat i4) * 1)) (.int .u8 (IntKind.u8.wrap (Int.tmod n0 256))) w).bind fun w_5 =>
  rec (IntKind.u64.wrap (Int.tdiv n0 256)) a2 b3 (IntKind.i64.wrap (i4 - 1)) w_5) else none) else (some ((), w))
noncomputable def ref02_number_l0 (K : Nat) (n : Nat) : Int → Addr → Addr → Int → World → Option ((Unit) × World) := iter (fun _ _ _ _ _ => none) (ref02_number_l0_b K) n
/-- coffer/cofferref02.number -/
noncomputable def ref02_number (K : Nat) (n0 : Int) (w : World) : Option (((Array Value) × Unit) × World) :=
  bnd (newB z143 143 w) fun p_1 w_2 =>
  bnd (newB z143 143 w_2) fun b_3 w_4 =>
  bnd (ref02_number_l0 K K n0 p_1 b_3 7 w_4) fun y_6 w_7 =>
  (ldA 8 b_3 w_7).bind fun v_8 =>
  if (v_8).size = 8 then ((stA p_1 v_8 w_7).bind fun w_9 =>
  (ldA 8 p_1 w_9).bind fun res_10 =>
  some ((res_10, ()), w_9)) else none
theorem ref02_number_l0_ok (K : Nat) (n : Nat) : StmtNOk prog [(0, .int .u64), (2, .addr), (3, .addr), (4, .int .i64)] [] [(0, 1), (4, 16)] ((fun n x w => ref02_number_l0 K n x.1 x.2.1 x.2.2.1 x.2.2.2.1 w) n) (.block 0 (.loop (cd (bodyOf f74) [1, 1, 0, 1, 0, 0]))) :=
    mk_loopN (O := tabL []) (root := (bodyOf f74)) (π := [1, 1, 0, 1, 0, 0]) (id := 0) (Li := [(0, .int .u64), (2, .addr), (3, .addr), (4, .int .i64)]) (Lo := []) (S := (fun n x w => ref02_number_l0 K n x.1 x.2.1 x.2.2.1 x.2.2.2.1 w)) (body := cd (bodyOf f74) [1, 1, 0, 1, 0, 0]) (ref02_number_Eok K) (ref02_number_Rok K) rfl (Orc.nil _ _ _) (by kernel_rfl) (fun _ _ => by kernel_rfl) (fun _ _ _ => by kernel_rfl) n
noncomputable def ref02_number_l0_se (K : Nat) : SE := stmtN [(0, .int .u64), (2, .addr), (3, .addr), (4, .int .i64)] [] [(0, 1), (4, 16)] (fun x w => ref02_number_l0 K K x.1 x.2.1 x.2.2.1 x.2.2.2.1 w)
theorem ref02_number_l0_se_ok (K : Nat) (R : Rg) (h : subRB [(0, 1), (4, 16)] R = true) : (ref02_number_l0_se K).Ok prog R (.block 0 (.loop (cd (bodyOf f74) [1, 1, 0, 1, 0, 0]))) := stmtN_ok (Li := [(0, .int .u64), (2, .addr), (3, .addr), (4, .int .i64)]) (Lo := []) (S := (fun x w => ref02_number_l0 K K x.1 x.2.1 x.2.2.1 x.2.2.2.1 w)) (ref02_number_l0_ok K K) (subR_of h)
theorem ref02_number_facts : FunFacts prog 74 f74 (bodyOf f74) [(0, .int .u64)] [(0, 17)] := ⟨func74, by kernel_rfl, by kernel_rfl, by kernel_rfl, by kernel_rfl, by kernel_rfl⟩
theorem ref02_number_calls (K : Nat) (x : TT [(0, .int .u64)]) (w : World) (y : TR [.agg]) (w2 : World) (h : ref02_number K x.1 w = some (y, w2)) : Calls prog 74 (encA [(0, .int .u64)] x).toArray w (fun e w3 => e = .returned (resV (encR [.agg] y)) ∧ w3 = w2) :=
    mk_fun (O := tabL [([1, 1, 0, 1], ref02_number_l0_se K)]) (Lp := [(0, .int .u64)]) (Rt := [.agg]) (S := (fun x w => ref02_number K x.1 w)) (ref02_number_Eok K) (ref02_number_Rok K) rfl ref02_number_facts (Orc.cons (by kernel_rfl) (ref02_number_l0_se_ok K [(0, 17)] (by kernel_rfl)) (Orc.nil _ _ _)) (fun _ _ => by kernel_rfl) x w y w2 h
noncomputable def ref02_number_ce (K : Nat) : CE := funE [(0, .int .u64)] [.agg] (fun x w => ref02_number K x.1 w)
theorem ref02_number_ok (K : Nat) : (ref02_number_ce K).Ok prog 74 := funE_ok (Rt := [.agg]) (S := (fun x w => ref02_number K x.1 w)) ref02_number_facts fun x w y w2 h => ref02_number_calls K x w y w2 h

noncomputable def ref02_WrapFrom_E (K : Nat) : List (Nat × CE) := [(24, ref02_Key_Encrypt_ce K), (74, ref02_number_ce K)]
theorem ref02_WrapFrom_Eok (K : Nat) : Env.Ok prog (tab (ref02_WrapFrom_E K)) := (Env.cons (ref02_Key_Encrypt_ok K) (Env.cons (ref02_number_ok K) (Env.nil _)))
noncomputable def ref02_WrapFrom_R (K : Nat) : List (Nat × RE) := []
theorem ref02_WrapFrom_Rok (K : Nat) : REnv.Ok prog (tab (ref02_WrapFrom_R K)) := (REnv.nil _)
noncomputable def ref02_WrapFrom_l2_b (K : Nat) (rec : Option Addr → Addr → Int → Sl → Int → Int → Addr → Int → World → Option ((Unit) × World)) (k0 : Option Addr) (a4 : Addr) (n7 : Int) (r8 : Sl) (j9 : Int) (i10 : Int) (b11 : Addr) (x12 : Int) (w : World) : Option ((Unit) × World) :=
  if (decide (x12 < 8)) = true then (if (0 : Int) ≤ x12 ∧ x12 < ((8 : Nat) : Int) then ((ldI .u8 (a4.add ((Int.toNat x12) * 1)) w).bind fun v_7 =>
  if (0 : Int) ≤ x12 ∧ x12 < ((16 : Nat) : Int) then ((stC (b11.add ((Int.toNat x12) * 1)) (.int .u8 v_7) w).bind fun w_8 =>
  (r8.a).bind fun p_9 =>
  if (0 : Int) ≤ (IntKind.i64.wrap ((IntKind.i64.wrap (8 * i10)) + x12)) ∧ (IntKind.i64.wrap ((IntKind.i64.wrap (8 * i10)) + x12)) < ((r8.len : Nat) : Int) then ((ldI .u8 (p_9.add ((Int.toNat (IntKind.i64.wrap ((IntKind.i64.wrap (8 * i10)) + x12))) * 1)) w_8).bind fun v_10 =>
  if (0 : Int) ≤ (IntKind.i64.wrap (8 + x12)) ∧ (IntKind.i64.wrap (8 + x12)) < ((16 : Nat) : Int) then ((stC (b11.add ((Int.toNat (IntKind.i64.wrap (8 + x12))) * 1)) (.int .u8 v_10) w_8).bind fun w_11 =>
  rec k0 a4 n7 r8 j9 i10 b11 (IntKind.i64.wrap (x12 + 1)) w_11) else none) else none) else none) else none) else (some ((), w))
noncomputable def ref02_WrapFrom_l2 (K : Nat) (n : Nat) : Option Addr → Addr → Int → Sl → Int → Int → Addr → Int → World → Option ((Unit) × World) := iter (fun _ _ _ _ _ _ _ _ _ => none) (ref02_WrapFrom_l2_b K) n
noncomputable def ref02_WrapFrom_l3_b (K : Nat) (rec : Option Addr → Addr → Int → Sl → Int → Int → Addr → Addr → Int → World → Option ((Unit) × World)) (k0 : Option Addr) (a4 : Addr) (n7 : Int) (r8 : Sl) (j9 : Int) (i10 : Int) (b11 : Addr) (t13 : Addr) (x14 : Int) (w : World) : Option ((Unit) × World) :=
  if (decide (x14 < 8)) = true then (if (0 : Int) ≤ x14 ∧ x14 < ((16 : Nat) : Int) then (if (0 : Int) ≤ x14 ∧ x14 < ((8 : Nat) : Int) then ((ldI .u8 (b11.add ((Int.toNat x14) * 1)) w.drew).bind fun v_23 =>
  (ldI .u8 (t13.add ((Int.toNat x14) * 1)) w.drew).bind fun v_24 =>
  if (0 : Int) ≤ x14 ∧ x14 < ((8 : Nat) : Int) then ((stC (a4.add ((Int.toNat x14) * 1)) (.int .u8 (bits .xor .u8 v_23 v_24)) w.drew).bind fun w_25 =>
  if (0 : Int) ≤ (IntKind.i64.wrap (8 + x14)) ∧ (IntKind.i64.wrap (8 + x14)) < ((16 : Nat) : Int) then ((ldI .u8 (b11.add ((Int.toNat (IntKind.i64.wrap (8 + x14))) * 1)) w_25).bind fun v_26 =>
  (r8.a).bind fun p_27 =>
  if (0 : Int) ≤ (IntKind.i64.wrap ((IntKind.i64.wrap (8 * i10)) + x14)) ∧ (IntKind.i64.wrap ((IntKind.i64.wrap (8 * i10)) + x14)) < ((r8.len : Nat) : Int) then ((stC (p_27.add ((Int.toNat (IntKind.i64.wrap ((IntKind.i64.wrap (8 * i10)) + x14))) * 1)) (.int .u8 v_26) w_25).bind fun w_28 =>
  rec k0 a4 n7 r8 j9 i10 b11 t13 (IntKind.i64.wrap (x14 + 1)) w_28) else none) else none) else none) else none) else none) else (some ((), w))
noncomputable def ref02_WrapFrom_l3 (K : Nat) (n : Nat) : Option Addr → Addr → Int → Sl → Int → Int → Addr → Addr → Int → World → Option ((Unit) × World) := iter (fun _ _ _ _ _ _ _ _ _ _ => none) (ref02_WrapFrom_l3_b K) n
noncomputable def ref02_WrapFrom_l1_b (K : Nat) (rec : Option Addr → Addr → Int → Sl → Int → Int → World → Option ((Unit) × World)) (k0 : Option Addr) (a4 : Addr) (n7 : Int) (r8 : Sl) (j9 : Int) (i10 : Int) (w : World) : Option ((Unit) × World) :=
  if (decide (i10 < n7)) = true then (bnd (newB z41 41 w) fun b_5 w_6 =>
  bnd (ref02_WrapFrom_l2 K K k0 a4 n7 r8 j9 i10 b_5 0 w_6) fun y_12 w_13 =>
  (ldA 16 b_5 w_13).bind fun v_14 =>
  bnd (ref02_Key_Encrypt K k0 v_14 w_13) fun r_15 w_16 =>
  if (r_15.1).size = 16 then ((stA b_5 r_15.1 w_16).bind fun w_17 =>
  bnd (ref02_number K (IntKind.u64.wrap (IntKind.i64.wrap ((IntKind.i64.wrap ((IntKind.i64.wrap (n7 * j9)) + i10)) + 1))) w_17) fun r_18 w_19 =>
  bnd (newB z143 143 w_19) fun t_20 w_21 =>
  if (r_18.1).size = 8 then ((stA t_20 r_18.1 w_21).bind fun w_22 =>
  bnd (ref02_WrapFrom_l3 K K k0 a4 n7 r8 j9 i10 b_5 t_20 0 w_22) fun y_29 w_30 =>
  rec k0 a4 n7 r8 j9 (IntKind.i64.wrap (i10 + 1)) w_30) else none) else none) else (some ((), w))
noncomputable def ref02_WrapFrom_l1 (K : Nat) (n : Nat) : Option Addr → Addr → Int → Sl → Int → Int → World → Option ((Unit) × World) := iter (fun _ _ _ _ _ _ _ => none) (ref02_WrapFrom_l1_b K) n
noncomputable def ref02_WrapFrom_l0_b (K : Nat) (rec : Option Addr → Addr → Int → Sl → Int → World → Option ((Unit) × World)) (k0 : Option Addr) (a4 : Addr) (n7 : Int) (r8 : Sl) (j9 : Int) (w : World) : Option ((Unit) × World) :=
  if (decide (j9 < 6)) = true then (bnd (ref02_WrapFrom_l1 K K k0 a4 n7 r8 j9 0 w) fun y_31 w_32 =>
  rec k0 a4 n7 r8 (IntKind.i64.wrap (j9 + 1)) w_32) else (some ((), w))
noncomputable def ref02_WrapFrom_l0 (K : Nat) (n : Nat) : Option Addr → Addr → Int → Sl → Int → World → Option ((Unit) × World) := iter (fun _ _ _ _ _ _ => none) (ref02_WrapFrom_l0_b K) n
/-- coffer/cofferref02.WrapFrom -/
noncomputable def ref02_WrapFrom (K : Nat) (k0 : Option Addr) (a1 : Array Value) (plain2 : Sl) (w : World) : Option ((Sl × Unit) × World) :=
  bnd (newB a1 143 w) fun p_1 w_2 =>
  bnd (apd prog 22 22 (.slice none 0 0) (.slice plain2.a plain2.len plain2.cap) w_2) fun s_3 w_4 =>
  bnd (ref02_WrapFrom_l0 K K k0 p_1 (IntKind.i64.wrap (Int.tdiv ((plain2.len : Nat) : Int) 8)) s_3 0 w_4) fun y_33 w_34 =>
  bnd (apd prog 22 22 (.slice (sla (some p_1) 0 8 1) (8 - 0) (8 - 0)) (.slice s_3.a s_3.len s_3.cap) w_34) fun s_35 w_36 =>
  some ((s_35, ()), w_36)
theorem ref02_WrapFrom_l2_ok (K : Nat) (n : Nat) : StmtNOk prog [(0, .ptr), (4, .addr), (7, .int .i64), (8, .sl), (9, .int .i64), (10, .int .i64), (11, .addr), (12, .int .i64)] [] [(12, 13), (30, 49)] ((fun n x w => ref02_WrapFrom_l2 K n x.1 x.2.1 x.2.2.1 x.2.2.2.1 x.2.2.2.2.1 x.2.2.2.2.2.1 x.2.2.2.2.2.2.1 x.2.2.2.2.2.2.2.1 w) n) (.block 4 (.loop (cd (bodyOf f73) [1, 1, 1, 1, 0, 1, 0, 0, 1, 0, 0, 1, 0, 0, 1, 0, 0, 1, 0, 1, 0, 0]))) :=
    mk_loopN (O := tabL []) (root := (bodyOf f73)) (π := [1, 1, 1, 1, 0, 1, 0, 0, 1, 0, 0, 1, 0, 0, 1, 0, 0, 1, 0, 1, 0, 0]) (id := 4) (Li := [(0, .ptr), (4, .addr), (7, .int .i64), (8, .sl), (9, .int .i64), (10, .int .i64), (11, .addr), (12, .int .i64)]) (Lo := []) (S := (fun n x w => ref02_WrapFrom_l2 K n x.1 x.2.1 x.2.2.1 x.2.2.2.1 x.2.2.2.2.1 x.2.2.2.2.2.1 x.2.2.2.2.2.2.1 x.2.2.2.2.2.2.2.1 w)) (body := cd (bodyOf f73) [1, 1, 1, 1, 0, 1, 0, 0, 1, 0, 0, 1, 0, 0, 1, 0, 0, 1, 0, 1, 0, 0]) (ref02_WrapFrom_Eok K) (ref02_WrapFrom_Rok K) rfl (Orc.nil _ _ _) (by kernel_rfl) (fun _ _ => by kernel_rfl) (fun _ _ _ => by kernel_rfl) n
noncomputable def ref02_WrapFrom_l2_se (K : Nat) : SE := stmtN [(0, .ptr), (4, .addr), (7, .int .i64), (8, .sl), (9, .int .i64), (10, .int .i64), (11, .addr), (12, .int .i64)] [] [(12, 13), (30, 49)] (fun x w => ref02_WrapFrom_l2 K K x.1 x.2.1 x.2.2.1 x.2.2.2.1 x.2.2.2.2.1 x.2.2.2.2.2.1 x.2.2.2.2.2.2.1 x.2.2.2.2.2.2.2.1 w)
theorem ref02_WrapFrom_l2_se_ok (K : Nat) (R : Rg) (h : subRB [(12, 13), (30, 49)] R = true) : (ref02_WrapFrom_l2_se K).Ok prog R (.block 4 (.loop (cd (bodyOf f73) [1, 1, 1, 1, 0, 1, 0, 0, 1, 0, 0, 1, 0, 0, 1, 0, 0, 1, 0, 1, 0, 0]))) := stmtN_ok (Li := [(0, .ptr), (4, .addr), (7, .int .i64), (8, .sl), (9, .int .i64), (10, .int .i64), (11, .addr), (12, .int .i64)]) (Lo := []) (S := (fun x w => ref02_WrapFrom_l2 K K x.1 x.2.1 x.2.2.1 x.2.2.2.1 x.2.2.2.2.1 x.2.2.2.2.2.1 x.2.2.2.2.2.2.1 x.2.2.2.2.2.2.2.1 w)) (ref02_WrapFrom_l2_ok K K) (subR_of h)
theorem ref02_WrapFrom_l3_ok (K : Nat) (n : Nat) : StmtNOk prog [(0, .ptr), (4, .addr), (7, .int .i64), (8, .sl), (9, .int .i64), (10, .int .i64), (11, .addr), (13, .addr), (14, .int .i64)] [] [(14, 15), (60, 83)] ((fun n x w => ref02_WrapFrom_l3 K n x.1 x.2.1 x.2.2.1 x.2.2.2.1 x.2.2.2.2.1 x.2.2.2.2.2.1 x.2.2.2.2.2.2.1 x.2.2.2.2.2.2.2.1 x.2.2.2.2.2.2.2.2.1 w) n) (.block 6 (.loop (cd (bodyOf f73) [1, 1, 1, 1, 0, 1, 0, 0, 1, 0, 0, 1, 0, 0, 1, 0, 0, 1, 1, 1, 1, 1, 0, 0]))) :=
    mk_loopN (O := tabL []) (root := (bodyOf f73)) (π := [1, 1, 1, 1, 0, 1, 0, 0, 1, 0, 0, 1, 0, 0, 1, 0, 0, 1, 1, 1, 1, 1, 0, 0]) (id := 6) (Li := [(0, .ptr), (4, .addr), (7, .int .i64), (8, .sl), (9, .int .i64), (10, .int .i64), (11, .addr), (13, .addr), (14, .int .i64)]) (Lo := []) (S := (fun n x w => ref02_WrapFrom_l3 K n x.1 x.2.1 x.2.2.1 x.2.2.2.1 x.2.2.2.2.1 x.2.2.2.2.2.1 x.2.2.2.2.2.2.1 x.2.2.2.2.2.2.2.1 x.2.2.2.2.2.2.2.2.1 w)) (body := cd (bodyOf f73) [1, 1, 1, 1, 0, 1, 0, 0, 1, 0, 0, 1, 0, 0, 1, 0, 0, 1, 1, 1, 1, 1, 0, 0]) (ref02_WrapFrom_Eok K) (ref02_WrapFrom_Rok K) rfl (Orc.nil _ _ _) (by kernel_rfl) (fun _ _ => by kernel_rfl) (fun _ _ _ => by kernel_rfl) n
noncomputable def ref02_WrapFrom_l3_se (K : Nat) : SE := stmtN [(0, .ptr), (4, .addr), (7, .int .i64), (8, .sl), (9, .int .i64), (10, .int .i64), (11, .addr), (13, .addr), (14, .int .i64)] [] [(14, 15), (60, 83)] (fun x w => ref02_WrapFrom_l3 K K x.1 x.2.1 x.2.2.1 x.2.2.2.1 x.2.2.2.2.1 x.2.2.2.2.2.1 x.2.2.2.2.2.2.1 x.2.2.2.2.2.2.2.1 x.2.2.2.2.2.2.2.2.1 w)
theorem ref02_WrapFrom_l3_se_ok (K : Nat) (R : Rg) (h : subRB [(14, 15), (60, 83)] R = true) : (ref02_WrapFrom_l3_se K).Ok prog R (.block 6 (.loop (cd (bodyOf f73) [1, 1, 1, 1, 0, 1, 0, 0, 1, 0, 0, 1, 0, 0, 1, 0, 0, 1, 1, 1, 1, 1, 0, 0]))) := stmtN_ok (Li := [(0, .ptr), (4, .addr), (7, .int .i64), (8, .sl), (9, .int .i64), (10, .int .i64), (11, .addr), (13, .addr), (14, .int .i64)]) (Lo := []) (S := (fun x w => ref02_WrapFrom_l3 K K x.1 x.2.1 x.2.2.1 x.2.2.2.1 x.2.2.2.2.1 x.2.2.2.2.2.1 x.2.2.2.2.2.2.1 x.2.2.2.2.2.2.2.1 x.2.2.2.2.2.2.2.2.1 w)) (ref02_WrapFrom_l3_ok K K) (subR_of h)
theorem ref02_WrapFrom_l1_ok (K : Nat) (n : Nat) : StmtNOk prog [(0, .ptr), (4, .addr), (7, .int .i64), (8, .sl), (9, .int .i64), (10, .int .i64)] [] [(10, 15), (25, 83)] ((fun n x w => ref02_WrapFrom_l1 K n x.1 x.2.1 x.2.2.1 x.2.2.2.1 x.2.2.2.2.1 x.2.2.2.2.2.1 w) n) (.block 2 (.loop (cd (bodyOf f73) [1, 1, 1, 1, 0, 1, 0, 0, 1, 0, 0, 1, 0, 0]))) :=
    mk_loopN (O := tabL [([1, 1, 1, 1, 0, 1, 0, 0, 1, 0, 0, 1, 0, 0, 1, 0, 0, 1, 0, 1], ref02_WrapFrom_l2_se K), ([1, 1, 1, 1, 0, 1, 0, 0, 1, 0, 0, 1, 0, 0, 1, 0, 0, 1, 1, 1, 1, 1], ref02_WrapFrom_l3_se K)]) (root := (bodyOf f73)) (π := [1, 1, 1, 1, 0, 1, 0, 0, 1, 0, 0, 1, 0, 0]) (id := 2) (Li := [(0, .ptr), (4, .addr), (7, .int .i64), (8, .sl), (9, .int .i64), (10, .int .i64)]) (Lo := []) (S := (fun n x w => ref02_WrapFrom_l1 K n x.1 x.2.1 x.2.2.1 x.2.2.2.1 x.2.2.2.2.1 x.2.2.2.2.2.1 w)) (body := cd (bodyOf f73) [1, 1, 1, 1, 0, 1, 0, 0, 1, 0, 0, 1, 0, 0]) (ref02_WrapFrom_Eok K) (ref02_WrapFrom_Rok K) rfl (Orc.cons (by kernel_rfl) (ref02_WrapFrom_l2_se_ok K [(10, 15), (25, 83)] (by kernel_rfl)) (Orc.cons (by kernel_rfl) (ref02_WrapFrom_l3_se_ok K [(10, 15), (25, 83)] (by kernel_rfl)) (Orc.nil _ _ _))) (by kernel_rfl) (fun _ _ => by kernel_rfl) (fun _ _ _ => by kernel_rfl) n
noncomputable def ref02_WrapFrom_l1_se (K : Nat) : SE := stmtN [(0, .ptr), (4, .addr), (7, .int .i64), (8, .sl), (9, .int .i64), (10, .int .i64)] [] [(10, 15), (25, 83)] (fun x w => ref02_WrapFrom_l1 K K x.1 x.2.1 x.2.2.1 x.2.2.2.1 x.2.2.2.2.1 x.2.2.2.2.2.1 w)
theorem ref02_WrapFrom_l1_se_ok (K : Nat) (R : Rg) (h : subRB [(10, 15), (25, 83)] R = true) : (ref02_WrapFrom_l1_se K).Ok prog R (.block 2 (.loop (cd (bodyOf f73) [1, 1, 1, 1, 0, 1, 0, 0, 1, 0, 0, 1, 0, 0]))) := stmtN_ok (Li := [(0, .ptr), (4, .addr), (7, .int .i64), (8, .sl), (9, .int .i64), (10, .int .i64)]) (Lo := []) (S := (fun x w => ref02_WrapFrom_l1 K K x.1 x.2.1 x.2.2.1 x.2.2.2.1 x.2.2.2.2.1 x.2.2.2.2.2.1 w)) (ref02_WrapFrom_l1_ok K K) (subR_of h)
theorem ref02_WrapFrom_l0_ok (K : Nat) (n : Nat) : StmtNOk prog [(0, .ptr), (4, .addr), (7, .int .i64), (8, .sl), (9, .int .i64)] [] [(9, 15), (21, 83)] ((fun n x w => ref02_WrapFrom_l0 K n x.1 x.2.1 x.2.2.1 x.2.2.2.1 x.2.2.2.2.1 w) n) (.block 0 (.loop (cd (bodyOf f73) [1, 1, 1, 1, 0, 1, 0, 0]))) :=
    mk_loopN (O := tabL [([1, 1, 1, 1, 0, 1, 0, 0, 1, 0, 0, 1], ref02_WrapFrom_l1_se K), ([1, 1, 1, 1, 0, 1, 0, 0, 1, 0, 0, 1, 0, 0, 1, 0, 0, 1, 0, 1], ref02_WrapFrom_l2_se K), ([1, 1, 1, 1, 0, 1, 0, 0, 1, 0, 0, 1, 0, 0, 1, 0, 0, 1, 1, 1, 1, 1], ref02_WrapFrom_l3_se K)]) (root := (bodyOf f73)) (π := [1, 1, 1, 1, 0, 1, 0, 0]) (id := 0) (Li := [(0, .ptr), (4, .addr), (7, .int .i64), (8, .sl), (9, .int .i64)]) (Lo := []) (S := (fun n x w => ref02_WrapFrom_l0 K n x.1 x.2.1 x.2.2.1 x.2.2.2.1 x.2.2.2.2.1 w)) (body := cd (bodyOf f73) [1, 1, 1, 1, 0, 1, 0, 0]) (ref02_WrapFrom_Eok K) (ref02_WrapFrom_Rok K) rfl (Orc.cons (by kernel_rfl) (ref02_WrapFrom_l1_se_ok K [(9, 15), (21, 83)] (by kernel_rfl)) (Orc.cons (by kernel_rfl) (ref02_WrapFrom_l2_se_ok K [(9, 15), (21, 83)] (by kernel_rfl)) (Orc.cons (by kernel_rfl) (ref02_WrapFrom_l3_se_ok K [(9, 15), (21, 83)] (by kernel_rfl)) (Orc.nil _ _ _)))) (by kernel_rfl) (fun _ _ => by kernel_rfl) (fun _ _ _ => by kernel_rfl) n
noncomputable def ref02_WrapFrom_l0_se (K : Nat) : SE := stmtN [(0, .ptr), (4, .addr), (7, .int .i64), (8, .sl), (9, .int .i64)] [] [(9, 15), (21, 83)] (fun x w => ref02_WrapFrom_l0 K K x.1 x.2.1 x.2.2.1 x.2.2.2.1 x.2.2.2.2.1 w)
theorem ref02_WrapFrom_l0_se_ok (K : Nat) (R : Rg) (h : subRB [(9, 15), (21, 83)] R = true) : (ref02_WrapFrom_l0_se K).Ok prog R (.block 0 (.loop (cd (bodyOf f73) [1, 1, 1, 1, 0, 1, 0, 0]))) := stmtN_ok (Li := [(0, .ptr), (4, .addr), (7, .int .i64), (8, .sl), (9, .int .i64)]) (Lo := []) (S := (fun x w => ref02_WrapFrom_l0 K K x.1 x.2.1 x.2.2.1 x.2.2.2.1 x.2.2.2.2.1 w)) (ref02_WrapFrom_l0_ok K K) (subR_of h)
theorem ref02_WrapFrom_facts : FunFacts prog 73 f73 (bodyOf f73) [(0, .ptr), (1, .agg), (2, .sl)] [(0, 86)] := ⟨func73, by kernel_rfl, by kernel_rfl, by kernel_rfl, by kernel_rfl, by kernel_rfl⟩
theorem ref02_WrapFrom_calls (K : Nat) (x : TT [(0, .ptr), (1, .agg), (2, .sl)]) (w : World) (y : TR [.sl]) (w2 : World) (h : ref02_WrapFrom K x.1 x.2.1 x.2.2.1 w = some (y, w2)) : Calls prog 73 (encA [(0, .ptr), (1, .agg), (2, .sl)] x).toArray w (fun e w3 => e = .returned (resV (encR [.sl] y)) ∧ w3 = w2) :=
    mk_fun (O := tabL [([1, 1, 1, 1, 0, 1], ref02_WrapFrom_l0_se K), ([1, 1, 1, 1, 0, 1, 0, 0, 1, 0, 0, 1], ref02_WrapFrom_l1_se K), ([1, 1, 1, 1, 0, 1, 0, 0, 1, 0, 0, 1, 0, 0, 1, 0, 0, 1, 0, 1], ref02_WrapFrom_l2_se K), ([1, 1, 1, 1, 0, 1, 0, 0, 1, 0, 0, 1, 0, 0, 1, 0, 0, 1, 1, 1, 1, 1], ref02_WrapFrom_l3_se K)]) (Lp := [(0, .ptr), (1, .agg), (2, .sl)]) (Rt := [.sl]) (S := (fun x w => ref02_WrapFrom K x.1 x.2.1 x.2.2.1 w)) (ref02_WrapFrom_Eok K) (ref02_WrapFrom_Rok K) rfl ref02_WrapFrom_facts (Orc.cons (by kernel_rfl) (ref02_WrapFrom_l0_se_ok K [(0, 86)] (by kernel_rfl)) (Orc.cons (by kernel_rfl) (ref02_WrapFrom_l1_se_ok K [(0, 86)] (by kernel_rfl)) (Orc.cons (by kernel_rfl) (ref02_WrapFrom_l2_se_ok K [(0, 86)] (by kernel_rfl)) (Orc.cons (by kernel_rfl) (ref02_WrapFrom_l3_se_ok K [(0, 86)] (by kernel_rfl)) (Orc.nil _ _ _))))) (fun _ _ => by kernel_rfl) x w y w2 h
noncomputable def ref02_WrapFrom_ce (K : Nat) : CE := funE [(0, .ptr), (1, .agg), (2, .sl)] [.sl] (fun x w => ref02_WrapFrom K x.1 x.2.1 x.2.2.1 w)
theorem ref02_WrapFrom_ok (K : Nat) : (ref02_WrapFrom_ce K).Ok prog 73 := funE_ok (Rt := [.sl]) (S := (fun x w => ref02_WrapFrom K x.1 x.2.1 x.2.2.1 w)) ref02_WrapFrom_facts fun x w y w2 h => ref02_WrapFrom_calls K x w y w2 h

noncomputable def ref02_Wrap_E (K : Nat) : List (Nat × CE) := [(73, ref02_WrapFrom_ce K)]
theorem ref02_Wrap_Eok (K : Nat) : Env.Ok prog (tab (ref02_Wrap_E K)) := (Env.cons (ref02_WrapFrom_ok K) (Env.nil _))
noncomputable def ref02_Wrap_R (K : Nat) : List (Nat × RE) := []
theorem ref02_Wrap_Rok (K : Nat) : REnv.Ok prog (tab (ref02_Wrap_R K)) := (REnv.nil _)
noncomputable def ref02_Wrap_s0 (K : Nat) (plain1 : Sl) (w : World) : Option ((Bool × Unit) × World) :=
  if (decide (((plain1.len : Nat) : Int) < 16)) = true then (some ((true, ()), w)) else (some ((((Int.tmod ((plain1.len : Nat) : Int) 8) != 0), ()), w))
/-- coffer/cofferref02.Wrap -/
noncomputable def ref02_Wrap (K : Nat) (k0 : Option Addr) (plain1 : Sl) (w : World) : Option ((Sl × Int × Unit) × World) :=
  if k0.isNone = true then (some ((⟨none, 0, 0⟩, 1, ()), w)) else ((k0).bind fun p_1 =>
  (ldB (p_1.add 4610) w).bind fun v_2 =>
  if v_2 = true then (some ((⟨none, 0, 0⟩, 21, ()), w)) else (bnd (ref02_Wrap_s0 K plain1 w) fun y_3 w_4 =>
  if y_3.1 = true then (some ((⟨none, 0, 0⟩, 5, ()), w_4)) else (if (decide (((plain1.len : Nat) : Int) > 4096)) = true then (some ((⟨none, 0, 0⟩, 4, ()), w_4)) else ((prog.built 143 [(0, (.int .u8 166)), (1, (.int .u8 166)), (2, (.int .u8 166)), (3, (.int .u8 166)), (4, (.int .u8 166)), (5, (.int .u8 166)), (6, (.int .u8 166)), (7, (.int .u8 166))]).bind fun cs_5 =>
  bnd (ref02_WrapFrom K k0 cs_5 plain1 w_4) fun r_6 w_7 =>
  some ((r_6.1, 0, ()), w_7)))))
theorem ref02_Wrap_s0_ok (K : Nat) : StmtNOk prog [(1, .sl)] [(20, .bool)] [(12, 21)] (fun x w => ref02_Wrap_s0 K x.1 w) (cd (bodyOf f59) [1, 1, 1, 0, 0]) :=
    mk_stmtN (O := tabL []) (root := (bodyOf f59)) (π := [1, 1, 1, 0, 0]) (Li := [(1, .sl)]) (Lo := [(20, .bool)]) (S := (fun x w => ref02_Wrap_s0 K x.1 w)) (ref02_Wrap_Eok K) (ref02_Wrap_Rok K) rfl (Orc.nil _ _ _) (by kernel_rfl) (fun _ _ => by kernel_rfl)
noncomputable def ref02_Wrap_s0_se (K : Nat) : SE := stmtN [(1, .sl)] [(20, .bool)] [(12, 21)] (fun x w => ref02_Wrap_s0 K x.1 w)
theorem ref02_Wrap_s0_se_ok (K : Nat) (R : Rg) (h : subRB [(12, 21)] R = true) : (ref02_Wrap_s0_se K).Ok prog R (cd (bodyOf f59) [1, 1, 1, 0, 0]) := stmtN_ok (Li := [(1, .sl)]) (Lo := [(20, .bool)]) (S := (fun x w => ref02_Wrap_s0 K x.1 w)) (ref02_Wrap_s0_ok K) (subR_of h)
theorem ref02_Wrap_facts : FunFacts prog 59 f59 (bodyOf f59) [(0, .ptr), (1, .sl)] [(0, 28)] := ⟨func59, by kernel_rfl, by kernel_rfl, by kernel_rfl, by kernel_rfl, by kernel_rfl⟩
theorem ref02_Wrap_calls (K : Nat) (x : TT [(0, .ptr), (1, .sl)]) (w : World) (y : TR [.sl, .int .i64]) (w2 : World) (h : ref02_Wrap K x.1 x.2.1 w = some (y, w2)) : Calls prog 59 (encA [(0, .ptr), (1, .sl)] x).toArray w (fun e w3 => e = .returned (resV (encR [.sl, .int .i64] y)) ∧ w3 = w2) :=
    mk_fun (O := tabL [([1, 1, 1, 0, 0], ref02_Wrap_s0_se K)]) (Lp := [(0, .ptr), (1, .sl)]) (Rt := [.sl, .int .i64]) (S := (fun x w => ref02_Wrap K x.1 x.2.1 w)) (ref02_Wrap_Eok K) (ref02_Wrap_Rok K) rfl ref02_Wrap_facts (Orc.cons (by kernel_rfl) (ref02_Wrap_s0_se_ok K [(0, 28)] (by kernel_rfl)) (Orc.nil _ _ _)) (fun _ _ => by kernel_rfl) x w y w2 h
noncomputable def ref02_Wrap_ce (K : Nat) : CE := funE [(0, .ptr), (1, .sl)] [.sl, .int .i64] (fun x w => ref02_Wrap K x.1 x.2.1 w)
theorem ref02_Wrap_ok (K : Nat) : (ref02_Wrap_ce K).Ok prog 59 := funE_ok (Rt := [.sl, .int .i64]) (S := (fun x w => ref02_Wrap K x.1 x.2.1 w)) ref02_Wrap_facts fun x w y w2 h => ref02_Wrap_calls K x w y w2 h

noncomputable def ref02_Unwrap_E (K : Nat) : List (Nat × CE) := [(74, ref02_number_ce K), (25, ref02_Key_Decrypt_ce K)]
theorem ref02_Unwrap_Eok (K : Nat) : Env.Ok prog (tab (ref02_Unwrap_E K)) := (Env.cons (ref02_number_ok K) (Env.cons (ref02_Key_Decrypt_ok K) (Env.nil _)))
noncomputable def ref02_Unwrap_R (K : Nat) : List (Nat × RE) := []
theorem ref02_Unwrap_Rok (K : Nat) : REnv.Ok prog (tab (ref02_Unwrap_R K)) := (REnv.nil _)
noncomputable def ref02_Unwrap_s0 (K : Nat) (sealed1 : Sl) (w : World) : Option ((Bool × Unit) × World) :=
  if (decide (((sealed1.len : Nat) : Int) < 24)) = true then (some ((true, ()), w)) else (some ((((Int.tmod ((sealed1.len : Nat) : Int) 8) != 0), ()), w))
noncomputable def ref02_Unwrap_l1_b (K : Nat) (rec : Option Addr → Sl → Int → Addr → Int → World → Option ((Unit) × World)) (k0 : Option Addr) (sealed1 : Sl) (n6 : Int) (a7 : Addr) (i8 : Int) (w : World) : Option ((Unit) × World) :=
  if (decide (i8 < 8)) = true then ((sealed1.a).bind fun p_7 =>
  if (0 : Int) ≤ i8 ∧ i8 < ((sealed1.len : Nat) : Int) then ((ldI .u8 (p_7.add ((Int.toNat i8) * 1)) w).bind fun v_8 =>
  if (0 : Int) ≤ i8 ∧ i8 < ((8 : Nat) : Int) then ((stC (a7.add ((Int.toNat i8) * 1)) (.int .u8 v_8) w).bind fun w_9 =>
  rec k0 sealed1 n6 a7 (IntKind.i64.wrap (i8 + 1)) w_9) else none) else none) else (some ((), w))
noncomputable def ref02_Unwrap_l1 (K : Nat) (n : Nat) : Option Addr → Sl → Int → Addr → Int → World → Option ((Unit) × World) := iter (fun _ _ _ _ _ _ => none) (ref02_Unwrap_l1_b K) n
noncomputable def ref02_Unwrap_l4_b (K : Nat) (rec : Option Addr → Int → Addr → Sl → Int → Int → Addr → Addr → Int → World → Option ((Unit) × World)) (k0 : Option Addr) (n6 : Int) (a7 : Addr) (r9 : Sl) (j10 : Int) (i11 : Int) (t12 : Addr) (b13 : Addr) (x14 : Int) (w : World) : Option ((Unit) × World) :=
  if (decide (x14 < 8)) = true then (if (0 : Int) ≤ x14 ∧ x14 < ((8 : Nat) : Int) then (if (0 : Int) ≤ x14 ∧ x14 < ((8 : Nat) : Int) then ((ldI .u8 (a7.add ((Int.toNat x14) * 1)) w.drew).bind fun v_21 =>
  (ldI .u8 (t12.add ((Int.toNat x14) * 1)) w.drew).bind fun v_22 =>
  if (0 : Int) ≤ x14 ∧ x14 < ((16 : Nat) : Int) then ((stC (b13.add ((Int.toNat x14) * 1)) (.int .u8 (bits .xor .u8 v_21 v_22)) w.drew).bind fun w_23 =>
  (r9.a).bind fun p_24 =>
  if (0 : Int) ≤ (IntKind.i64.wrap ((IntKind.i64.wrap (8 * i11)) + x14)) ∧ (IntKind.i64.wrap ((IntKind.i64.wrap (8 * i11)) + x14)) < ((r9.len : Nat) : Int) then ((ldI .u8 (p_24.add ((Int.toNat (IntKind.i64.wrap ((IntKind.i64.wrap (8 * i11)) + x14))) * 1)) w_23).bind fun v_25 =>
  if (0 : Int) ≤ (IntKind.i64.wrap (8 + x14)) ∧ (IntKind.i64.wrap (8 + x14)) < ((16 : Nat) : Int) then ((stC (b13.add ((Int.toNat (IntKind.i64.wrap (8 + x14))) * 1)) (.int .u8 v_25) w_23).bind fun w_26 =>
  rec k0 n6 a7 r9 j10 i11 t12 b13 (IntKind.i64.wrap (x14 + 1)) w_26) else none) else none) else none) else none) else none) else (some ((), w))
noncomputable def ref02_Unwrap_l4 (K : Nat) (n : Nat) : Option Addr → Int → Addr → Sl → Int → Int → Addr → Addr → Int → World → Option ((Unit) × World) := iter (fun _ _ _ _ _ _ _ _ _ _ => none) (ref02_Unwrap_l4_b K) n
noncomputable def ref02_Unwrap_l5_b (K : Nat) (rec : Option Addr → Int → Addr → Sl → Int → Int → Addr → Int → World → Option ((Unit) × World)) (k0 : Option Addr) (n6 : Int) (a7 : Addr) (r9 : Sl) (j10 : Int) (i11 : Int) (b13 : Addr) (x15 : Int) (w : World) : Option ((Unit) × World) :=
  if (decide (x15 < 8)) = true then (if (0 : Int) ≤ x15 ∧ x15 < ((16 : Nat) : Int) then ((ldI .u8 (b13.add ((Int.toNat x15) * 1)) w).bind fun v_33 =>
  if (0 : Int) ≤ x15 ∧ x15 < ((8 : Nat) : Int) then ((stC (a7.add ((Int.toNat x15) * 1)) (.int .u8 v_33) w).bind fun w_34 =>
  if (0 : Int) ≤ (IntKind.i64.wrap (8 + x15)) ∧ (IntKind.i64.wrap (8 + x15)) < ((16 : Nat) : Int) then ((ldI .u8 (b13.add ((Int.toNat (IntKind.i64.wrap (8 + x15))) * 1)) w_34).bind fun v_35 =>
  (r9.a).bind fun p_36 =>
  if (0 : Int) ≤ (IntKind.i64.wrap ((IntKind.i64.wrap (8 * i11)) + x15)) ∧ (IntKind.i64.wrap ((IntKind.i64.wrap (8 * i11)) + x15)) < ((r9.len : Nat) : Int) then ((stC (p_36.add ((Int.toNat (IntKind.i64.wrap ((IntKind.i64.wrap (8 * i11)) + x15))) * 1)) (.int .u8 v_35) w_34).bind fun w_37 =>
  rec k0 n6 a7 r9 j10 i11 b13 (IntKind.i64.wrap (x15 + 1)) w_37) else none) else none) else none) else none) else (some ((), w))
noncomputable def ref02_Unwrap_l5 (K : Nat) (n : Nat) : Option Addr → Int → Addr → Sl → Int → Int → Addr → Int → World → Option ((Unit) × World) := iter (fun _ _ _ _ _ _ _ _ _ => none) (ref02_Unwrap_l5_b K) n
noncomputable def ref02_Unwrap_l3_b (K : Nat) (rec : Option Addr → Int → Addr → Sl → Int → Int → World → Option ((Unit) × World)) (k0 : Option Addr) (n6 : Int) (a7 : Addr) (r9 : Sl) (j10 : Int) (i11 : Int) (w : World) : Option ((Unit) × World) :=
  if (decide (i11 ≥ 0)) = true then (bnd (ref02_number K (IntKind.u64.wrap (IntKind.i64.wrap ((IntKind.i64.wrap ((IntKind.i64.wrap (n6 * j10)) + i11)) + 1))) w) fun r_14 w_15 =>
  bnd (newB z143 143 w_15) fun t_16 w_17 =>
  if (r_14.1).size = 8 then ((stA t_16 r_14.1 w_17).bind fun w_18 =>
  bnd (newB z41 41 w_18) fun b_19 w_20 =>
  bnd (ref02_Unwrap_l4 K K k0 n6 a7 r9 j10 i11 t_16 b_19 0 w_20) fun y_27 w_28 =>
  (ldA 16 b_19 w_28).bind fun v_29 =>
  bnd (ref02_Key_Decrypt K k0 v_29 w_28) fun r_30 w_31 =>
  if (r_30.1).size = 16 then ((stA b_19 r_30.1 w_31).bind fun w_32 =>
  bnd (ref02_Unwrap_l5 K K k0 n6 a7 r9 j10 i11 b_19 0 w_32) fun y_38 w_39 =>
  rec k0 n6 a7 r9 j10 (IntKind.i64.wrap (i11 - 1)) w_39) else none) else none) else (some ((), w))
noncomputable def ref02_Unwrap_l3 (K : Nat) (n : Nat) : Option Addr → Int → Addr → Sl → Int → Int → World → Option ((Unit) × World) := iter (fun _ _ _ _ _ _ _ => none) (ref02_Unwrap_l3_b K) n
noncomputable def ref02_Unwrap_l2_b (K : Nat) (rec : Option Addr → Int → Addr → Sl → Int → World → Option ((Unit) × World)) (k0 : Option Addr) (n6 : Int) (a7 : Addr) (r9 : Sl) (j10 : Int) (w : World) : Option ((Unit) × World) :=
  if (decide (j10 ≥ 0)) = true then (bnd (ref02_Unwrap_l3 K K k0 n6 a7 r9 j10 (IntKind.i64.wrap (n6 - 1)) w) fun y_40 w_41 =>
  rec k0 n6 a7 r9 (IntKind.i64.wrap (j10 - 1)) w_41) else (some ((), w))
noncomputable def ref02_Unwrap_l2 (K : Nat) (n : Nat) : Option Addr → Int → Addr → Sl → Int → World → Option ((Unit) × World) := iter (fun _ _ _ _ _ _ => none) (ref02_Unwrap_l2_b K) n
noncomputable def ref02_Unwrap_l6_b (K : Nat) (rec : Addr → Sl → Int → World → Option ((Out (Unit) (Sl × Int × Unit)) × World)) (a7 : Addr) (r9 : Sl) (i16 : Int) (w : World) : Option ((Out (Unit) (Sl × Int × Unit)) × World) :=
  if (decide (i16 < 8)) = true then (if (0 : Int) ≤ i16 ∧ i16 < ((8 : Nat) : Int) then ((ldI .u8 (a7.add ((Int.toNat i16) * 1)) w).bind fun v_44 =>
  if (v_44 != 166) = true then (some (.ret (⟨none, 0, 0⟩, 22, ()), w)) else (rec a7 r9 (IntKind.i64.wrap (i16 + 1)) w)) else none) else (some (.norm (), w))
noncomputable def ref02_Unwrap_l6 (K : Nat) (n : Nat) : Addr → Sl → Int → World → Option ((Out (Unit) (Sl × Int × Unit)) × World) := iter (fun _ _ _ _ => none) (ref02_Unwrap_l6_b K) n
/-- coffer/cofferref02.Unwrap -/
noncomputable def ref02_Unwrap (K : Nat) (k0 : Option Addr) (sealed1 : Sl) (w : World) : Option ((Sl × Int × Unit) × World) :=
  if k0.isNone = true then (some ((⟨none, 0, 0⟩, 1, ()), w)) else ((k0).bind fun p_1 =>
  (ldB (p_1.add 4610) w).bind fun v_2 =>
  if v_2 = true then (some ((⟨none, 0, 0⟩, 21, ()), w)) else (bnd (ref02_Unwrap_s0 K sealed1 w) fun y_3 w_4 =>
  if y_3.1 = true then (some ((⟨none, 0, 0⟩, 5, ()), w_4)) else (if (decide (((sealed1.len : Nat) : Int) > 4104)) = true then (some ((⟨none, 0, 0⟩, 4, ()), w_4)) else (bnd (newB z143 143 w_4) fun a_5 w_6 =>
  bnd (ref02_Unwrap_l1 K K k0 sealed1 (IntKind.i64.wrap ((IntKind.i64.wrap (Int.tdiv ((sealed1.len : Nat) : Int) 8)) - 1)) a_5 0 w_6) fun y_10 w_11 =>
  if (0 : Int) ≤ 8 ∧ 8 ≤ ((sealed1.len : Nat) : Int) then (bnd (apd prog 22 22 (.slice none 0 0) (.slice (sla sealed1.a 8 sealed1.cap 1) (sealed1.len - 8) (sealed1.cap - 8)) w_11) fun s_12 w_13 =>
  bnd (ref02_Unwrap_l2 K K k0 (IntKind.i64.wrap ((IntKind.i64.wrap (Int.tdiv ((sealed1.len : Nat) : Int) 8)) - 1)) a_5 s_12 5 w_13) fun y_42 w_43 =>
  bnd (ref02_Unwrap_l6 K K a_5 s_12 0 w_43) fun y_45 w_46 =>
  (match y_45 with
  | .norm z_47n => (some ((s_12, 0, ()), w_46))
  | .ret z_47r => (some ((z_47r.1, z_47r.2.1, ()), w_46)))) else none))))
theorem ref02_Unwrap_s0_ok (K : Nat) : StmtNOk prog [(1, .sl)] [(31, .bool)] [(23, 32)] (fun x w => ref02_Unwrap_s0 K x.1 w) (cd (bodyOf f60) [1, 1, 1, 0, 0]) :=
    mk_stmtN (O := tabL []) (root := (bodyOf f60)) (π := [1, 1, 1, 0, 0]) (Li := [(1, .sl)]) (Lo := [(31, .bool)]) (S := (fun x w => ref02_Unwrap_s0 K x.1 w)) (ref02_Unwrap_Eok K) (ref02_Unwrap_Rok K) rfl (Orc.nil _ _ _) (by kernel_rfl) (fun _ _ => by kernel_rfl)
noncomputable def ref02_Unwrap_s0_se (K : Nat) : SE := stmtN [(1, .sl)] [(31, .bool)] [(23, 32)] (fun x w => ref02_Unwrap_s0 K x.1 w)
theorem ref02_Unwrap_s0_se_ok (K : Nat) (R : Rg) (h : subRB [(23, 32)] R = true) : (ref02_Unwrap_s0_se K).Ok prog R (cd (bodyOf f60) [1, 1, 1, 0, 0]) := stmtN_ok (Li := [(1, .sl)]) (Lo := [(31, .bool)]) (S := (fun x w => ref02_Unwrap_s0 K x.1 w)) (ref02_Unwrap_s0_ok K) (subR_of h)
theorem ref02_Unwrap_l1_ok (K : Nat) (n : Nat) : StmtNOk prog [(0, .ptr), (1, .sl), (6, .int .i64), (7, .addr), (8, .int .i64)] [] [(8, 9), (39, 49)] ((fun n x w => ref02_Unwrap_l1 K n x.1 x.2.1 x.2.2.1 x.2.2.2.1 x.2.2.2.2.1 w) n) (.block 0 (.loop (cd (bodyOf f60) [1, 1, 1, 1, 1, 1, 1, 0, 1, 0, 0]))) :=
    mk_loopN (O := tabL []) (root := (bodyOf f60)) (π := [1, 1, 1, 1, 1, 1, 1, 0, 1, 0, 0]) (id := 0) (Li := [(0, .ptr), (1, .sl), (6, .int .i64), (7, .addr), (8, .int .i64)]) (Lo := []) (S := (fun n x w => ref02_Unwrap_l1 K n x.1 x.2.1 x.2.2.1 x.2.2.2.1 x.2.2.2.2.1 w)) (body := cd (bodyOf f60) [1, 1, 1, 1, 1, 1, 1, 0, 1, 0, 0]) (ref02_Unwrap_Eok K) (ref02_Unwrap_Rok K) rfl (Orc.nil _ _ _) (by kernel_rfl) (fun _ _ => by kernel_rfl) (fun _ _ _ => by kernel_rfl) n
noncomputable def ref02_Unwrap_l1_se (K : Nat) : SE := stmtN [(0, .ptr), (1, .sl), (6, .int .i64), (7, .addr), (8, .int .i64)] [] [(8, 9), (39, 49)] (fun x w => ref02_Unwrap_l1 K K x.1 x.2.1 x.2.2.1 x.2.2.2.1 x.2.2.2.2.1 w)
theorem ref02_Unwrap_l1_se_ok (K : Nat) (R : Rg) (h : subRB [(8, 9), (39, 49)] R = true) : (ref02_Unwrap_l1_se K).Ok prog R (.block 0 (.loop (cd (bodyOf f60) [1, 1, 1, 1, 1, 1, 1, 0, 1, 0, 0]))) := stmtN_ok (Li := [(0, .ptr), (1, .sl), (6, .int .i64), (7, .addr), (8, .int .i64)]) (Lo := []) (S := (fun x w => ref02_Unwrap_l1 K K x.1 x.2.1 x.2.2.1 x.2.2.2.1 x.2.2.2.2.1 w)) (ref02_Unwrap_l1_ok K K) (subR_of h)
theorem ref02_Unwrap_l4_ok (K : Nat) (n : Nat) : StmtNOk prog [(0, .ptr), (6, .int .i64), (7, .addr), (9, .sl), (10, .int .i64), (11, .int .i64), (12, .addr), (13, .addr), (14, .int .i64)] [] [(14, 15), (71, 94)] ((fun n x w => ref02_Unwrap_l4 K n x.1 x.2.1 x.2.2.1 x.2.2.2.1 x.2.2.2.2.1 x.2.2.2.2.2.1 x.2.2.2.2.2.2.1 x.2.2.2.2.2.2.2.1 x.2.2.2.2.2.2.2.2.1 w) n) (.block 6 (.loop (cd (bodyOf f60) [1, 1, 1, 1, 1, 1, 1, 1, 1, 1, 0, 1, 0, 0, 1, 0, 0, 1, 0, 0, 1, 0, 0, 1, 1, 0, 1, 0, 0]))) :=
    mk_loopN (O := tabL []) (root := (bodyOf f60)) (π := [1, 1, 1, 1, 1, 1, 1, 1, 1, 1, 0, 1, 0, 0, 1, 0, 0, 1, 0, 0, 1, 0, 0, 1, 1, 0, 1, 0, 0]) (id := 6) (Li := [(0, .ptr), (6, .int .i64), (7, .addr), (9, .sl), (10, .int .i64), (11, .int .i64), (12, .addr), (13, .addr), (14, .int .i64)]) (Lo := []) (S := (fun n x w => ref02_Unwrap_l4 K n x.1 x.2.1 x.2.2.1 x.2.2.2.1 x.2.2.2.2.1 x.2.2.2.2.2.1 x.2.2.2.2.2.2.1 x.2.2.2.2.2.2.2.1 x.2.2.2.2.2.2.2.2.1 w)) (body := cd (bodyOf f60) [1, 1, 1, 1, 1, 1, 1, 1, 1, 1, 0, 1, 0, 0, 1, 0, 0, 1, 0, 0, 1, 0, 0, 1, 1, 0, 1, 0, 0]) (ref02_Unwrap_Eok K) (ref02_Unwrap_Rok K) rfl (Orc.nil _ _ _) (by kernel_rfl) (fun _ _ => by kernel_rfl) (fun _ _ _ => by kernel_rfl) n
noncomputable def ref02_Unwrap_l4_se (K : Nat) : SE := stmtN [(0, .ptr), (6, .int .i64), (7, .addr), (9, .sl), (10, .int .i64), (11, .int .i64), (12, .addr), (13, .addr), (14, .int .i64)] [] [(14, 15), (71, 94)] (fun x w => ref02_Unwrap_l4 K K x.1 x.2.1 x.2.2.1 x.2.2.2.1 x.2.2.2.2.1 x.2.2.2.2.2.1 x.2.2.2.2.2.2.1 x.2.2.2.2.2.2.2.1 x.2.2.2.2.2.2.2.2.1 w)
theorem ref02_Unwrap_l4_se_ok (K : Nat) (R : Rg) (h : subRB [(14, 15), (71, 94)] R = true) : (ref02_Unwrap_l4_se K).Ok prog R (.block 6 (.loop (cd (bodyOf f60) [1, 1, 1, 1, 1, 1, 1, 1, 1, 1, 0, 1, 0, 0, 1, 0, 0, 1, 0, 0, 1, 0, 0, 1, 1, 0, 1, 0, 0]))) := stmtN_ok (Li := [(0, .ptr), (6, .int .i64), (7, .addr), (9, .sl), (10, .int .i64), (11, .int .i64), (12, .addr), (13, .addr), (14, .int .i64)]) (Lo := []) (S := (fun x w => ref02_Unwrap_l4 K K x.1 x.2.1 x.2.2.1 x.2.2.2.1 x.2.2.2.2.1 x.2.2.2.2.2.1 x.2.2.2.2.2.2.1 x.2.2.2.2.2.2.2.1 x.2.2.2.2.2.2.2.2.1 w)) (ref02_Unwrap_l4_ok K K) (subR_of h)
theorem ref02_Unwrap_l5_ok (K : Nat) (n : Nat) : StmtNOk prog [(0, .ptr), (6, .int .i64), (7, .addr), (9, .sl), (10, .int .i64), (11, .int .i64), (13, .addr), (15, .int .i64)] [] [(15, 16), (97, 116)] ((fun n x w => ref02_Unwrap_l5 K n x.1 x.2.1 x.2.2.1 x.2.2.2.1 x.2.2.2.2.1 x.2.2.2.2.2.1 x.2.2.2.2.2.2.1 x.2.2.2.2.2.2.2.1 w) n) (.block 8 (.loop (cd (bodyOf f60) [1, 1, 1, 1, 1, 1, 1, 1, 1, 1, 0, 1, 0, 0, 1, 0, 0, 1, 0, 0, 1, 0, 0, 1, 1, 1, 1, 1, 0, 0]))) :=
    mk_loopN (O := tabL []) (root := (bodyOf f60)) (π := [1, 1, 1, 1, 1, 1, 1, 1, 1, 1, 0, 1, 0, 0, 1, 0, 0, 1, 0, 0, 1, 0, 0, 1, 1, 1, 1, 1, 0, 0]) (id := 8) (Li := [(0, .ptr), (6, .int .i64), (7, .addr), (9, .sl), (10, .int .i64), (11, .int .i64), (13, .addr), (15, .int .i64)]) (Lo := []) (S := (fun n x w => ref02_Unwrap_l5 K n x.1 x.2.1 x.2.2.1 x.2.2.2.1 x.2.2.2.2.1 x.2.2.2.2.2.1 x.2.2.2.2.2.2.1 x.2.2.2.2.2.2.2.1 w)) (body := cd (bodyOf f60) [1, 1, 1, 1, 1, 1, 1, 1, 1, 1, 0, 1, 0, 0, 1, 0, 0, 1, 0, 0, 1, 0, 0, 1, 1, 1, 1, 1, 0, 0]) (ref02_Unwrap_Eok K) (ref02_Unwrap_Rok K) rfl (Orc.nil _ _ _) (by kernel_rfl) (fun _ _ => by kernel_rfl) (fun _ _ _ => by kernel_rfl) n
noncomputable def ref02_Unwrap_l5_se (K : Nat) : SE := stmtN [(0, .ptr), (6, .int .i64), (7, .addr), (9, .sl), (10, .int .i64), (11, .int .i64), (13, .addr), (15, .int .i64)] [] [(15, 16), (97, 116)] (fun x w => ref02_Unwrap_l5 K K x.1 x.2.1 x.2.2.1 x.2.2.2.1 x.2.2.2.2.1 x.2.2.2.2.2.1 x.2.2.2.2.2.2.1 x.2.2.2.2.2.2.2.1 w)
theorem ref02_Unwrap_l5_se_ok (K : Nat) (R : Rg) (h : subRB [(15, 16), (97, 116)] R = true) : (ref02_Unwrap_l5_se K).Ok prog R (.block 8 (.loop (cd (bodyOf f60) [1, 1, 1, 1, 1, 1, 1, 1, 1, 1, 0, 1, 0, 0, 1, 0, 0, 1, 0, 0, 1, 0, 0, 1, 1, 1, 1, 1, 0, 0]))) := stmtN_ok (Li := [(0, .ptr), (6, .int .i64), (7, .addr), (9, .sl), (10, .int .i64), (11, .int .i64), (13, .addr), (15, .int .i64)]) (Lo := []) (S := (fun x w => ref02_Unwrap_l5 K K x.1 x.2.1 x.2.2.1 x.2.2.2.1 x.2.2.2.2.1 x.2.2.2.2.2.1 x.2.2.2.2.2.2.1 x.2.2.2.2.2.2.2.1 w)) (ref02_Unwrap_l5_ok K K) (subR_of h)
theorem ref02_Unwrap_l3_ok (K : Nat) (n : Nat) : StmtNOk prog [(0, .ptr), (6, .int .i64), (7, .addr), (9, .sl), (10, .int .i64), (11, .int .i64)] [] [(11, 16), (59, 116)] ((fun n x w => ref02_Unwrap_l3 K n x.1 x.2.1 x.2.2.1 x.2.2.2.1 x.2.2.2.2.1 x.2.2.2.2.2.1 w) n) (.block 4 (.loop (cd (bodyOf f60) [1, 1, 1, 1, 1, 1, 1, 1, 1, 1, 0, 1, 0, 0, 1, 0, 0, 1, 0, 0]))) :=
    mk_loopN (O := tabL [([1, 1, 1, 1, 1, 1, 1, 1, 1, 1, 0, 1, 0, 0, 1, 0, 0, 1, 0, 0, 1, 0, 0, 1, 1, 0, 1], ref02_Unwrap_l4_se K), ([1, 1, 1, 1, 1, 1, 1, 1, 1, 1, 0, 1, 0, 0, 1, 0, 0, 1, 0, 0, 1, 0, 0, 1, 1, 1, 1, 1], ref02_Unwrap_l5_se K)]) (root := (bodyOf f60)) (π := [1, 1, 1, 1, 1, 1, 1, 1, 1, 1, 0, 1, 0, 0, 1, 0, 0, 1, 0, 0]) (id := 4) (Li := [(0, .ptr), (6, .int .i64), (7, .addr), (9, .sl), (10, .int .i64), (11, .int .i64)]) (Lo := []) (S := (fun n x w => ref02_Unwrap_l3 K n x.1 x.2.1 x.2.2.1 x.2.2.2.1 x.2.2.2.2.1 x.2.2.2.2.2.1 w)) (body := cd (bodyOf f60) [1, 1, 1, 1, 1, 1, 1, 1, 1, 1, 0, 1, 0, 0, 1, 0, 0, 1, 0, 0]) (ref02_Unwrap_Eok K) (ref02_Unwrap_Rok K) rfl (Orc.cons (by kernel_rfl) (ref02_Unwrap_l4_se_ok K [(11, 16), (59, 116)] (by kernel_rfl)) (Orc.cons (by kernel_rfl) (ref02_Unwrap_l5_se_ok K [(11, 16), (59, 116)] (by kernel_rfl)) (Orc.nil _ _ _))) (by kernel_rfl) (fun _ _ => by kernel_rfl) (fun _ _ _ => by kernel_rfl) n
noncomputable def ref02_Unwrap_l3_se (K : Nat) : SE := stmtN [(0, .ptr), (6, .int .i64), (7, .addr), (9, .sl), (10, .int .i64), (11, .int .i64)] [] [(11, 16), (59, 116)] (fun x w => ref02_Unwrap_l3 K K x.1 x.2.1 x.2.2.1 x.2.2.2.1 x.2.2.2.2.1 x.2.2.2.2.2.1 w)
theorem ref02_Unwrap_l3_se_ok (K : Nat) (R : Rg) (h : subRB [(11, 16), (59, 116)] R = true) : (ref02_Unwrap_l3_se K).Ok prog R (.block 4 (.loop (cd (bodyOf f60) [1, 1, 1, 1, 1, 1, 1, 1, 1, 1, 0, 1, 0, 0, 1, 0, 0, 1, 0, 0]))) := stmtN_ok (Li := [(0, .ptr), (6, .int .i64), (7, .addr), (9, .sl), (10, .int .i64), (11, .int .i64)]) (Lo := []) (S := (fun x w => ref02_Unwrap_l3 K K x.1 x.2.1 x.2.2.1 x.2.2.2.1 x.2.2.2.2.1 x.2.2.2.2.2.1 w)) (ref02_Unwrap_l3_ok K K) (subR_of h)
theorem ref02_Unwrap_l2_ok (K : Nat) (n : Nat) : StmtNOk prog [(0, .ptr), (6, .int .i64), (7, .addr), (9, .sl), (10, .int .i64)] [] [(10, 16), (53, 116)] ((fun n x w => ref02_Unwrap_l2 K n x.1 x.2.1 x.2.2.1 x.2.2.2.1 x.2.2.2.2.1 w) n) (.block 2 (.loop (cd (bodyOf f60) [1, 1, 1, 1, 1, 1, 1, 1, 1, 1, 0, 1, 0, 0]))) :=
    mk_loopN (O := tabL [([1, 1, 1, 1, 1, 1, 1, 1, 1, 1, 0, 1, 0, 0, 1, 0, 0, 1], ref02_Unwrap_l3_se K), ([1, 1, 1, 1, 1, 1, 1, 1, 1, 1, 0, 1, 0, 0, 1, 0, 0, 1, 0, 0, 1, 0, 0, 1, 1, 0, 1], ref02_Unwrap_l4_se K), ([1, 1, 1, 1, 1, 1, 1, 1, 1, 1, 0, 1, 0, 0, 1, 0, 0, 1, 0, 0, 1, 0, 0, 1, 1, 1, 1, 1], ref02_Unwrap_l5_se K)]) (root := (bodyOf f60)) (π := [1, 1, 1, 1, 1, 1, 1, 1, 1, 1, 0, 1, 0, 0]) (id := 2) (Li := [(0, .ptr), (6, .int .i64), (7, .addr), (9, .sl), (10, .int .i64)]) (Lo := []) (S := (fun n x w => ref02_Unwrap_l2 K n x.1 x.2.1 x.2.2.1 x.2.2.2.1 x.2.2.2.2.1 w)) (body := cd (bodyOf f60) [1, 1, 1, 1, 1, 1, 1, 1, 1, 1, 0, 1, 0, 0]) (ref02_Unwrap_Eok K) (ref02_Unwrap_Rok K) rfl (Orc.cons (by kernel_rfl) (ref02_Unwrap_l3_se_ok K [(10, 16), (53, 116)] (by kernel_rfl)) (Orc.cons (by kernel_rfl) (ref02_Unwrap_l4_se_ok K [(10, 16), (53, 116)] (by kernel_rfl)) (Orc.cons (by kernel_rfl) (ref02_Unwrap_l5_se_ok K [(10, 16), (53, 116)] (by kernel_rfl)) (Orc.nil _ _ _)))) (by kernel_rfl) (fun _ _ => by kernel_rfl) (fun _ _ _ => by kernel_rfl) n
noncomputable def ref02_Unwrap_l2_se (K : Nat) : SE := stmtN [(0, .ptr), (6, .int .i64), (7, .addr), (9, .sl), (10, .int .i64)] [] [(10, 16), (53, 116)] (fun x w => ref02_Unwrap_l2 K K x.1 x.2.1 x.2.2.1 x.2.2.2.1 x.2.2.2.2.1 w)
theorem ref02_Unwrap_l2_se_ok (K : Nat) (R : Rg) (h : subRB [(10, 16), (53, 116)] R = true) : (ref02_Unwrap_l2_se K).Ok prog R (.block 2 (.loop (cd (bodyOf f60) [1, 1, 1, 1, 1, 1, 1, 1, 1, 1, 0, 1, 0, 0]))) := stmtN_ok (Li := [(0, .ptr), (6, .int .i64), (7, .addr), (9, .sl), (10, .int .i64)]) (Lo := []) (S := (fun x w => ref02_Unwrap_l2 K K x.1 x.2.1 x.2.2.1 x.2.2.2.1 x.2.2.2.2.1 w)) (ref02_Unwrap_l2_ok K K) (subR_of h)
theorem ref02_Unwrap_l6_ok (K : Nat) (n : Nat) : StmtOk prog [(7, .addr), (9, .sl), (16, .int .i64)] [] [(4, .sl), (5, .int .i64)] [(4, 6), (16, 17), (116, 124)] ((fun n x w => ref02_Unwrap_l6 K n x.1 x.2.1 x.2.2.1 w) n) (.block 10 (.loop (cd (bodyOf f60) [1, 1, 1, 1, 1, 1, 1, 1, 1, 1, 1, 0, 1, 0, 0]))) :=
    mk_loop (O := tabL []) (root := (bodyOf f60)) (π := [1, 1, 1, 1, 1, 1, 1, 1, 1, 1, 1, 0, 1, 0, 0]) (id := 10) (Li := [(7, .addr), (9, .sl), (16, .int .i64)]) (Lo := []) (Lr := [(4, .sl), (5, .int .i64)]) (S := (fun n x w => ref02_Unwrap_l6 K n x.1 x.2.1 x.2.2.1 w)) (body := cd (bodyOf f60) [1, 1, 1, 1, 1, 1, 1, 1, 1, 1, 1, 0, 1, 0, 0]) (ref02_Unwrap_Eok K) (ref02_Unwrap_Rok K) rfl (Orc.nil _ _ _) (by kernel_rfl) (fun _ _ => by kernel_rfl) (fun _ _ _ => by kernel_rfl) n
noncomputable def ref02_Unwrap_l6_se (K : Nat) : SE := stmt [(7, .addr), (9, .sl), (16, .int .i64)] [] [(4, .sl), (5, .int .i64)] [(4, 6), (16, 17), (116, 124)] (fun x w => ref02_Unwrap_l6 K K x.1 x.2.1 x.2.2.1 w)
theorem ref02_Unwrap_l6_se_ok (K : Nat) (R : Rg) (h : subRB [(4, 6), (16, 17), (116, 124)] R = true) : (ref02_Unwrap_l6_se K).Ok prog R (.block 10 (.loop (cd (bodyOf f60) [1, 1, 1, 1, 1, 1, 1, 1, 1, 1, 1, 0, 1, 0, 0]))) := stmt_ok (Li := [(7, .addr), (9, .sl), (16, .int .i64)]) (Lo := []) (Lr := [(4, .sl), (5, .int .i64)]) (S := (fun x w => ref02_Unwrap_l6 K K x.1 x.2.1 x.2.2.1 w)) (ref02_Unwrap_l6_ok K K) (subR_of h)
theorem ref02_Unwrap_facts : FunFacts prog 60 f60 (bodyOf f60) [(0, .ptr), (1, .sl)] [(0, 125)] := ⟨func60, by kernel_rfl, by kernel_rfl, by kernel_rfl, by kernel_rfl, by kernel_rfl⟩
theorem ref02_Unwrap_calls (K : Nat) (x : TT [(0, .ptr), (1, .sl)]) (w : World) (y : TR [.sl, .int .i64]) (w2 : World) (h : ref02_Unwrap K x.1 x.2.1 w = some (y, w2)) : Calls prog 60 (encA [(0, .ptr), (1, .sl)] x).toArray w (fun e w3 => e = .returned (resV (encR [.sl, .int .i64] y)) ∧ w3 = w2) :=
    mk_fun (O := tabL [([1, 1, 1, 0, 0], ref02_Unwrap_s0_se K), ([1, 1, 1, 1, 1, 1, 1, 0, 1], ref02_Unwrap_l1_se K), ([1, 1, 1, 1, 1, 1, 1, 1, 1, 1, 0, 1], ref02_Unwrap_l2_se K), ([1, 1, 1, 1, 1, 1, 1, 1, 1, 1, 0, 1, 0, 0, 1, 0, 0, 1], ref02_Unwrap_l3_se K), ([1, 1, 1, 1, 1, 1, 1, 1, 1, 1, 0, 1, 0, 0, 1, 0, 0, 1, 0, 0, 1, 0, 0, 1, 1, 0, 1], ref02_Unwrap_l4_se K), ([1, 1, 1, 1, 1, 1, 1, 1, 1, 1, 0, 1, 0, 0, 1, 0, 0, 1, 0, 0, 1, 0, 0, 1, 1, 1, 1, 1], ref02_Unwrap_l5_se K), ([1, 1, 1, 1, 1, 1, 1, 1, 1, 1, 1, 0, 1], ref02_Unwrap_l6_se K)]) (Lp := [(0, .ptr), (1, .sl)]) (Rt := [.sl, .int .i64]) (S := (fun x w => ref02_Unwrap K x.1 x.2.1 w)) (ref02_Unwrap_Eok K) (ref02_Unwrap_Rok K) rfl ref02_Unwrap_facts (Orc.cons (by kernel_rfl) (ref02_Unwrap_s0_se_ok K [(0, 125)] (by kernel_rfl)) (Orc.cons (by kernel_rfl) (ref02_Unwrap_l1_se_ok K [(0, 125)] (by kernel_rfl)) (Orc.cons (by kernel_rfl) (ref02_Unwrap_l2_se_ok K [(0, 125)] (by kernel_rfl)) (Orc.cons (by kernel_rfl) (ref02_Unwrap_l3_se_ok K [(0, 125)] (by kernel_rfl)) (Orc.cons (by kernel_rfl) (ref02_Unwrap_l4_se_ok K [(0, 125)] (by kernel_rfl)) (Orc.cons (by kernel_rfl) (ref02_Unwrap_l5_se_ok K [(0, 125)] (by kernel_rfl)) (Orc.cons (by kernel_rfl) (ref02_Unwrap_l6_se_ok K [(0, 125)] (by kernel_rfl)) (Orc.nil _ _ _)))))))) (fun _ _ => by kernel_rfl) x w y w2 h
noncomputable def ref02_Unwrap_ce (K : Nat) : CE := funE [(0, .ptr), (1, .sl)] [.sl, .int .i64] (fun x w => ref02_Unwrap K x.1 x.2.1 w)
theorem ref02_Unwrap_ok (K : Nat) : (ref02_Unwrap_ce K).Ok prog 60 := funE_ok (Rt := [.sl, .int .i64]) (S := (fun x w => ref02_Unwrap K x.1 x.2.1 w)) ref02_Unwrap_facts fun x w y w2 h => ref02_Unwrap_calls K x w y w2 h

end Go.Sh
