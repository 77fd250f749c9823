/- Texts of this claim, put together: Sh6, Sh7, Sh8, Sh9, Sh10, Sh11, Sh12, Sh13, Sh14 -/
import Derived.Test.YteomkfcfhlljkaaDoorAllShimfgjj
/- What functions of the program do, as Lean functions; that the machine does just that. Printed by shal.py, a program of this claim's writer. -/
set_option maxRecDepth 100000
set_option linter.unusedVariables false
namespace Go.Sh
open Go.Fw Go.Proofs.Tryd

noncomputable def escrow_Words_E (K : Nat) : List (Nat × CE) := []
theorem escrow_Words_Eok (K : Nat) : Env.Ok prog (tab (escrow_Words_E K)) := (Env.nil _)
noncomputable def escrow_Words_R (K : Nat) : List (Nat × RE) := []
theorem escrow_Words_Rok (K : Nat) : REnv.Ok prog (tab (escrow_Words_R K)) := (REnv.nil _)
noncomputable def escrow_Words_s1 (K : Nat) (out3 : Sl) (a14 : Bool) (w : World) : Option ((Sl × Unit) × World) :=
  if a14 = true then (bnd (bldS prog 23 1 #[(0, (.int .u8 32))] w) fun s_1 w_2 =>
  bnd (apd prog 23 23 (.slice out3.a out3.len out3.cap) (.slice s_1.a s_1.len s_1.cap) w_2) fun s_3 w_4 =>
  some ((s_3, ()), w_4)) else (some ((out3, ()), w))
noncomputable def escrow_Words_l0_b (K : Nat) (rec : Sl → Sl → Int → World → Option ((Sl × Unit) × World)) (b0 : Sl) (out3 : Sl) (i4 : Int) (w : World) : Option ((Sl × Unit) × World) :=
  if (decide ((IntKind.i64.wrap (i4 + 1)) < ((b0.len : Nat) : Int))) = true then (bnd (escrow_Words_s1 K out3 (decide (i4 > 0)) w) fun y_5 w_6 =>
  (b0.a).bind fun p_7 =>
  if (0 : Int) ≤ i4 ∧ i4 < ((b0.len : Nat) : Int) then ((b0.a).bind fun p_8 =>
  if (0 : Int) ≤ (IntKind.i64.wrap (i4 + 1)) ∧ (IntKind.i64.wrap (i4 + 1)) < ((b0.len : Nat) : Int) then ((ldI .u8 (p_7.add ((Int.toNat i4) * 1)) w_6.drew).bind fun v_9 =>
  (ldI .u8 (p_8.add ((Int.toNat (IntKind.i64.wrap (i4 + 1))) * 1)) w_6.drew).bind fun v_10 =>
  if (0 : Int) ≤ (Int.fdiv (bits .or .i64 (IntKind.i64.wrap ((IntKind.i64.wrap v_9) * 2 ^ 8)) (IntKind.i64.wrap v_10)) (2 ^ 12)) then ((str1[(Int.toNat (Int.fdiv (bits .or .i64 (IntKind.i64.wrap ((IntKind.i64.wrap v_9) * 2 ^ 8)) (IntKind.i64.wrap v_10)) (2 ^ 12)))]?).bind fun b_11 =>
  if (0 : Int) ≤ (bits .and .i64 (Int.fdiv (bits .or .i64 (IntKind.i64.wrap ((IntKind.i64.wrap v_9) * 2 ^ 8)) (IntKind.i64.wrap v_10)) (2 ^ 10)) 3) then ((str2[(Int.toNat (bits .and .i64 (Int.fdiv (bits .or .i64 (IntKind.i64.wrap ((IntKind.i64.wrap v_9) * 2 ^ 8)) (IntKind.i64.wrap v_10)) (2 ^ 10)) 3))]?).bind fun b_12 =>
  if (0 : Int) ≤ (bits .and .i64 (Int.fdiv (bits .or .i64 (IntKind.i64.wrap ((IntKind.i64.wrap v_9) * 2 ^ 8)) (IntKind.i64.wrap v_10)) (2 ^ 6)) 15) then ((str1[(Int.toNat (bits .and .i64 (Int.fdiv (bits .or .i64 (IntKind.i64.wrap ((IntKind.i64.wrap v_9) * 2 ^ 8)) (IntKind.i64.wrap v_10)) (2 ^ 6)) 15))]?).bind fun b_13 =>
  if (0 : Int) ≤ (bits .and .i64 (Int.fdiv (bits .or .i64 (IntKind.i64.wrap ((IntKind.i64.wrap v_9) * 2 ^ 8)) (IntKind.i64.wrap v_10)) (2 ^ 4)) 3) then ((str2[(Int.toNat (bits .and .i64 (Int.fdiv (bits .or .i64 (IntKind.i64.wrap ((IntKind.i64.wrap v_9) * 2 ^ 8)) (IntKind.i64.wrap v_10)) (2 ^ 4)) 3))]?).bind fun b_14 =>
  if (0 : Int) ≤ (bits .and .i64 (bits .or .i64 (IntKind.i64.wrap ((IntKind.i64.wrap v_9) * 2 ^ 8)) (IntKind.i64.wrap v_10)) 15) then ((str1[(Int.toNat (bits .and .i64 (bits .or .i64 (IntKind.i64.wrap ((IntKind.i64.wrap v_9) * 2 ^ 8)) (IntKind.i64.wrap v_10)) 15))]?).bind fun b_15 =>
  bnd (bldS prog 23 5 #[(0, (.int .u8 ((b_11.toNat : Nat) : Int))), (1, (.int .u8 ((b_12.toNat : Nat) : Int))), (2, (.int .u8 ((b_13.toNat : Nat) : Int))), (3, (.int .u8 ((b_14.toNat : Nat) : Int))), (4, (.int .u8 ((b_15.toNat : Nat) : Int)))] w_6.drew.drew) fun s_16 w_17 =>
  bnd (apd prog 23 23 (.slice y_5.1.a y_5.1.len y_5.1.cap) (.slice s_16.a s_16.len s_16.cap) w_17) fun s_18 w_19 =>
  rec b0 s_18 (IntKind.i64.wrap (i4 + 2)) w_19) else none) else none) else none) else none) else none) else none) else none) else (some ((out3, ()), w))
noncomputable def escrow_Words_l0 (K : Nat) (n : Nat) : Sl → Sl → Int → World → Option ((Sl × Unit) × World) := iter (fun _ _ _ _ => none) (escrow_Words_l0_b K) n
/-- coffer/escrow.Words -/
noncomputable def escrow_Words (K : Nat) (b0 : Sl) (w : World) : Option ((ByteArray × Unit) × World) :=
  bnd (escrow_Words_l0 K K b0 ⟨none, 0, 0⟩ 0 w) fun y_20 w_21 =>
  (b2sQ prog y_20.1.a y_20.1.len y_20.1.cap w_21).bind fun c_22 =>
  some ((c_22, ()), w_21)
theorem escrow_Words_s1_ok (K : Nat) : StmtNOk prog [(3, .sl), (14, .bool)] [(3, .sl)] [(3, 4), (15, 18)] (fun x w => escrow_Words_s1 K x.1 x.2.1 w) (cd (bodyOf f59) [1, 1, 0, 1, 0, 0, 1, 0, 0, 0, 1]) :=
    mk_stmtN (O := tabL []) (root := (bodyOf f59)) (π := [1, 1, 0, 1, 0, 0, 1, 0, 0, 0, 1]) (Li := [(3, .sl), (14, .bool)]) (Lo := [(3, .sl)]) (S := (fun x w => escrow_Words_s1 K x.1 x.2.1 w)) (escrow_Words_Eok K) (escrow_Words_Rok K) rfl (Orc.nil _ _ _) (by kernel_rfl) (fun _ _ => by kernel_rfl)
noncomputable def escrow_Words_s1_se (K : Nat) : SE := stmtN [(3, .sl), (14, .bool)] [(3, .sl)] [(3, 4), (15, 18)] (fun x w => escrow_Words_s1 K x.1 x.2.1 w)
theorem escrow_Words_s1_se_ok (K : Nat) (R : Rg) (h : subRB [(3, 4), (15, 18)] R = true) : (escrow_Words_s1_se K).Ok prog R (cd (bodyOf f59) [1, 1, 0, 1, 0, 0, 1, 0, 0, 0, 1]) := stmtN_ok (Li := [(3, .sl), (14, .bool)]) (Lo := [(3, .sl)]) (S := (fun x w => escrow_Words_s1 K x.1 x.2.1 w)) (escrow_Words_s1_ok K) (subR_of h)
theorem escrow_Words_l0_ok (K : Nat) (n : Nat) : StmtNOk prog [(0, .sl), (3, .sl), (4, .int .i64)] [(3, .sl)] [(3, 52)] ((fun n x w => escrow_Words_l0 K n x.1 x.2.1 x.2.2.1 w) n) (.block 0 (.loop (cd (bodyOf f59) [1, 1, 0, 1, 0, 0]))) :=
    mk_loopN (O := tabL [([1, 1, 0, 1, 0, 0, 1, 0, 0, 0, 1], escrow_Words_s1_se K)]) (root := (bodyOf f59)) (π := [1, 1, 0, 1, 0, 0]) (id := 0) (Li := [(0, .sl), (3, .sl), (4, .int .i64)]) (Lo := [(3, .sl)]) (S := (fun n x w => escrow_Words_l0 K n x.1 x.2.1 x.2.2.1 w)) (body := cd (bodyOf f59) [1, 1, 0, 1, 0, 0]) (escrow_Words_Eok K) (escrow_Words_Rok K) rfl (Orc.cons (by kernel_rfl) (escrow_Words_s1_se_ok K [(3, 52)] (by kernel_rfl)) (Orc.nil _ _ _)) (by kernel_rfl) (fun _ _ => by kernel_rfl) (fun _ _ _ => by kernel_rfl) n
noncomputable def escrow_Words_l0_se (K : Nat) : SE := stmtN [(0, .sl), (3, .sl), (4, .int .i64)] [(3, .sl)] [(3, 52)] (fun x w => escrow_Words_l0 K K x.1 x.2.1 x.2.2.1 w)
theorem escrow_Words_l0_se_ok (K : Nat) (R : Rg) (h : subRB [(3, 52)] R = true) : (escrow_Words_l0_se K).Ok prog R (.block 0 (.loop (cd (bodyOf f59) [1, 1, 0, 1, 0, 0]))) := stmtN_ok (Li := [(0, .sl), (3, .sl), (4, .int .i64)]) (Lo := [(3, .sl)]) (S := (fun x w => escrow_Words_l0 K K x.1 x.2.1 x.2.2.1 w)) (escrow_Words_l0_ok K K) (subR_of h)
theorem escrow_Words_facts : FunFacts prog 59 f59 (bodyOf f59) [(0, .sl)] [(0, 54)] := ⟨func59, by kernel_rfl, by kernel_rfl, by kernel_rfl, by kernel_rfl, by kernel_rfl⟩
theorem escrow_Words_calls (K : Nat) (x : TT [(0, .sl)]) (w : World) (y : TR [.str]) (w2 : World) (h : escrow_Words K x.1 w = some (y, w2)) : Calls prog 59 (encA [(0, .sl)] x).toArray w (fun e w3 => e = .returned (resV (encR [.str] y)) ∧ w3 = w2) :=
    mk_fun (O := tabL [([1, 1, 0, 1], escrow_Words_l0_se K), ([1, 1, 0, 1, 0, 0, 1, 0, 0, 0, 1], escrow_Words_s1_se K)]) (Lp := [(0, .sl)]) (Rt := [.str]) (S := (fun x w => escrow_Words K x.1 w)) (escrow_Words_Eok K) (escrow_Words_Rok K) rfl escrow_Words_facts (Orc.cons (by kernel_rfl) (escrow_Words_l0_se_ok K [(0, 54)] (by kernel_rfl)) (Orc.cons (by kernel_rfl) (escrow_Words_s1_se_ok K [(0, 54)] (by kernel_rfl)) (Orc.nil _ _ _))) (fun _ _ => by kernel_rfl) x w y w2 h
noncomputable def escrow_Words_ce (K : Nat) : CE := funE [(0, .sl)] [.str] (fun x w => escrow_Words K x.1 w)
theorem escrow_Words_ok (K : Nat) : (escrow_Words_ce K).Ok prog 59 := funE_ok (Rt := [.str]) (S := (fun x w => escrow_Words K x.1 w)) escrow_Words_facts fun x w y w2 h => escrow_Words_calls K x w y w2 h

noncomputable def escrow_share_text_E (K : Nat) : List (Nat × CE) := [(82, escrow_share_bytes_ce K), (59, escrow_Words_ce K)]
theorem escrow_share_text_Eok (K : Nat) : Env.Ok prog (tab (escrow_share_text_E K)) := (Env.cons (escrow_share_bytes_ok K) (Env.cons (escrow_Words_ok K) (Env.nil _)))
noncomputable def escrow_share_text_R (K : Nat) : List (Nat × RE) := []
theorem escrow_share_text_Rok (K : Nat) : REnv.Ok prog (tab (escrow_share_text_R K)) := (REnv.nil _)
/-- (coffer/escrow.share).text -/
noncomputable def escrow_share_text (K : Nat) (s0 : Array Value) (w : World) : Option ((ByteArray × Unit) × World) :=
  bnd (newB s0 102 w) fun p_1 w_2 =>
  (ldA 5 p_1 w_2).bind fun v_3 =>
  bnd (escrow_share_bytes K v_3 w_2) fun r_4 w_5 =>
  bnd (escrow_Words K r_4.1 w_5) fun r_6 w_7 =>
  some ((r_6.1, ()), w_7)
theorem escrow_share_text_facts : FunFacts prog 55 f55 (bodyOf f55) [(0, .agg)] [(0, 6)] := ⟨func55, by kernel_rfl, by kernel_rfl, by kernel_rfl, by kernel_rfl, by kernel_rfl⟩
theorem escrow_share_text_calls (K : Nat) (x : TT [(0, .agg)]) (w : World) (y : TR [.str]) (w2 : World) (h : escrow_share_text K x.1 w = some (y, w2)) : Calls prog 55 (encA [(0, .agg)] x).toArray w (fun e w3 => e = .returned (resV (encR [.str] y)) ∧ w3 = w2) :=
    mk_fun (O := tabL []) (Lp := [(0, .agg)]) (Rt := [.str]) (S := (fun x w => escrow_share_text K x.1 w)) (escrow_share_text_Eok K) (escrow_share_text_Rok K) rfl escrow_share_text_facts (Orc.nil _ _ _) (fun _ _ => by kernel_rfl) x w y w2 h
noncomputable def escrow_share_text_ce (K : Nat) : CE := funE [(0, .agg)] [.str] (fun x w => escrow_share_text K x.1 w)
theorem escrow_share_text_ok (K : Nat) : (escrow_share_text_ce K).Ok prog 55 := funE_ok (Rt := [.str]) (S := (fun x w => escrow_share_text K x.1 w)) escrow_share_text_facts fun x w y w2 h => escrow_share_text_calls K x w y w2 h

noncomputable def escrow_Deal_E (K : Nat) : List (Nat × CE) := [(52, escrow_row_ce K), (53, escrow_through_ce), (54, escrow_at_ce K), (55, escrow_share_text_ce K)]
theorem escrow_Deal_Eok (K : Nat) : Env.Ok prog (tab (escrow_Deal_E K)) := (Env.cons (escrow_row_ok K) (Env.cons (escrow_through_ok) (Env.cons (escrow_at_ok K) (Env.cons (escrow_share_text_ok K) (Env.nil _)))))
noncomputable def escrow_Deal_R (K : Nat) : List (Nat × RE) := [(51, escrow_may_re), (17, escrow_Random_re)]
theorem escrow_Deal_Rok (K : Nat) : REnv.Ok prog (tab (escrow_Deal_R K)) := (REnv.cons (escrow_may_ok) (REnv.cons (escrow_Random_ok) (REnv.nil _)))
noncomputable def escrow_Deal_l1_b (K : Nat) (rec : Int → Sl → Int → Int → Sl → Sl → Sl → Int → Sl → Sl → Int → Int → Int → Int → World → Option ((Sl × Unit) × World)) (set0 : Int) (secret1 : Sl) (need2 : Int) (count3 : Int) (random4 : Sl) (t13 : Sl) (lines14 : Sl) (i15 : Int) (l17 : Sl) (a38 : Sl) (a39 : Int) (a40 : Int) (a48 : Int) (a49 : Int) (w : World) : Option ((Sl × Unit) × World) :=
  if (decide (a49 < a48)) = true then ((random4.a).bind fun p_9 =>
  if (0 : Int) ≤ (IntKind.i64.wrap ((IntKind.i64.wrap (a49 * ((t13.len : Nat) : Int))) + i15)) ∧ (IntKind.i64.wrap ((IntKind.i64.wrap (a49 * ((t13.len : Nat) : Int))) + i15)) < ((random4.len : Nat) : Int) then ((ldI .u8 (p_9.add ((Int.toNat (IntKind.i64.wrap ((IntKind.i64.wrap (a49 * ((t13.len : Nat) : Int))) + i15))) * 1)) w).bind fun v_10 =>
  bnd (bldS prog 23 1 #[(0, (.int .u8 v_10))] w) fun s_11 w_12 =>
  bnd (apd prog 23 23 (.slice l17.a l17.len l17.cap) (.slice s_11.a s_11.len s_11.cap) w_12) fun s_13 w_14 =>
  rec set0 secret1 need2 count3 random4 t13 lines14 i15 s_13 a38 a39 a40 a48 (IntKind.i64.wrap (a49 + 1)) w_14) else none) else (some ((l17, ()), w))
noncomputable def escrow_Deal_l1 (K : Nat) (n : Nat) : Int → Sl → Int → Int → Sl → Sl → Sl → Int → Sl → Sl → Int → Int → Int → Int → World → Option ((Sl × Unit) × World) := iter (fun _ _ _ _ _ _ _ _ _ _ _ _ _ _ _ => none) (escrow_Deal_l1_b K) n
noncomputable def escrow_Deal_l0_b (K : Nat) (rec : Int → Sl → Int → Int → Sl → Sl → Sl → Sl → Int → Int → World → Option ((Sl × Unit) × World)) (set0 : Int) (secret1 : Sl) (need2 : Int) (count3 : Int) (random4 : Sl) (t13 : Sl) (lines14 : Sl) (a38 : Sl) (a39 : Int) (a40 : Int) (w : World) : Option ((Sl × Unit) × World) :=
  if (decide (a40 < a39)) = true then ((a38.a).bind fun p_5 =>
  if (0 : Int) ≤ a40 ∧ a40 < ((a38.len : Nat) : Int) then ((ldI .u8 (p_5.add ((Int.toNat a40) * 1)) w).bind fun v_6 =>
  bnd (bldS prog 23 1 #[(0, (.int .u8 v_6))] w) fun s_7 w_8 =>
  bnd (escrow_Deal_l1 K K set0 secret1 need2 count3 random4 t13 lines14 a40 s_7 a38 a39 a40 (IntKind.i64.wrap (need2 - 1)) 0 w_8) fun y_15 w_16 =>
  bnd (escrow_through y_15.1 w_16) fun r_17 w_18 =>
  bnd (bldS prog 96 1 #[(0, r_17.1)] w_18) fun s_19 w_20 =>
  bnd (apd prog 96 96 (.slice lines14.a lines14.len lines14.cap) (.slice s_19.a s_19.len s_19.cap) w_20) fun s_21 w_22 =>
  rec set0 secret1 need2 count3 random4 t13 s_21 a38 a39 (IntKind.i64.wrap (a40 + 1)) w_22) else none) else (some ((lines14, ()), w))
noncomputable def escrow_Deal_l0 (K : Nat) (n : Nat) : Int → Sl → Int → Int → Sl → Sl → Sl → Sl → Int → Int → World → Option ((Sl × Unit) × World) := iter (fun _ _ _ _ _ _ _ _ _ _ _ => none) (escrow_Deal_l0_b K) n
noncomputable def escrow_Deal_l2_b (K : Nat) (rec : Int → Sl → Int → Int → Sl → Sl → Int → World → Option ((Sl × Unit) × World)) (set0 : Int) (secret1 : Sl) (need2 : Int) (count3 : Int) (lines14 : Sl) (out19 : Sl) (x20 : Int) (w : World) : Option ((Sl × Unit) × World) :=
  if (decide (x20 ≤ count3)) = true then ((prog.built 84 [(0, (.int .u16 set0)), (1, (.int .i64 need2)), (2, (.int .i64 x20)), (3, (.int .i64 ((secret1.len : Nat) : Int)))]).bind fun cs_25 =>
  bnd (escrow_at K lines14 x20 w) fun r_26 w_27 =>
  (prog.built 102 [(0, (.agg cs_25)), (1, (.slice r_26.1.a r_26.1.len r_26.1.cap))]).bind fun cs_28 =>
  bnd (escrow_share_text K cs_28 w_27) fun r_29 w_30 =>
  bnd (bldS prog 29 1 #[(0, (.string r_29.1))] w_30) fun s_31 w_32 =>
  bnd (apd prog 29 29 (.slice out19.a out19.len out19.cap) (.slice s_31.a s_31.len s_31.cap) w_32) fun s_33 w_34 =>
  rec set0 secret1 need2 count3 lines14 s_33 (IntKind.i64.wrap (x20 + 1)) w_34) else (some ((out19, ()), w))
noncomputable def escrow_Deal_l2 (K : Nat) (n : Nat) : Int → Sl → Int → Int → Sl → Sl → Int → World → Option ((Sl × Unit) × World) := iter (fun _ _ _ _ _ _ _ _ => none) (escrow_Deal_l2_b K) n
/-- coffer/escrow.Deal -/
noncomputable def escrow_Deal (K : Nat) (set0 : Int) (secret1 : Sl) (need2 : Int) (count3 : Int) (random4 : Sl) (w : World) : Option ((Sl × Int × Unit) × World) :=
  (escrow_may secret1 need2 count3).bind fun r_1 =>
  if (r_1.1 != 0) = true then (some ((⟨none, 0, 0⟩, r_1.1, ()), w)) else ((escrow_Random need2 ((secret1.len : Nat) : Int)).bind fun r_2 =>
  if (((random4.len : Nat) : Int) != r_2.1) = true then (some ((⟨none, 0, 0⟩, 5, ()), w)) else (bnd (escrow_row K set0 secret1 w) fun r_3 w_4 =>
  bnd (escrow_Deal_l0 K K set0 secret1 need2 count3 random4 r_3.1 ⟨none, 0, 0⟩ r_3.1 ((r_3.1.len : Nat) : Int) 0 w_4) fun y_23 w_24 =>
  bnd (escrow_Deal_l2 K K set0 secret1 need2 count3 y_23.1 ⟨none, 0, 0⟩ 1 w_24) fun y_35 w_36 =>
  some ((y_35.1, 0, ()), w_36)))
theorem escrow_Deal_l1_ok (K : Nat) (n : Nat) : StmtNOk prog [(0, .int .u16), (1, .sl), (2, .int .i64), (3, .int .i64), (4, .sl), (13, .sl), (14, .sl), (15, .int .i64), (17, .sl), (38, .sl), (39, .int .i64), (40, .int .i64), (48, .int .i64), (49, .int .i64)] [(17, .sl)] [(17, 19), (49, 65)] ((fun n x w => escrow_Deal_l1 K n x.1 x.2.1 x.2.2.1 x.2.2.2.1 x.2.2.2.2.1 x.2.2.2.2.2.1 x.2.2.2.2.2.2.1 x.2.2.2.2.2.2.2.1 x.2.2.2.2.2.2.2.2.1 x.2.2.2.2.2.2.2.2.2.1 x.2.2.2.2.2.2.2.2.2.2.1 x.2.2.2.2.2.2.2.2.2.2.2.1 x.2.2.2.2.2.2.2.2.2.2.2.2.1 x.2.2.2.2.2.2.2.2.2.2.2.2.2.1 w) n) (.block 2 (.loop (cd (bodyOf f16) [1, 1, 1, 1, 1, 0, 1, 0, 0, 1, 1, 0, 0, 1, 1, 0, 1, 0, 0]))) :=
    mk_loopN (O := tabL []) (root := (bodyOf f16)) (π := [1, 1, 1, 1, 1, 0, 1, 0, 0, 1, 1, 0, 0, 1, 1, 0, 1, 0, 0]) (id := 2) (Li := [(0, .int .u16), (1, .sl), (2, .int .i64), (3, .int .i64), (4, .sl), (13, .sl), (14, .sl), (15, .int .i64), (17, .sl), (38, .sl), (39, .int .i64), (40, .int .i64), (48, .int .i64), (49, .int .i64)]) (Lo := [(17, .sl)]) (S := (fun n x w => escrow_Deal_l1 K n x.1 x.2.1 x.2.2.1 x.2.2.2.1 x.2.2.2.2.1 x.2.2.2.2.2.1 x.2.2.2.2.2.2.1 x.2.2.2.2.2.2.2.1 x.2.2.2.2.2.2.2.2.1 x.2.2.2.2.2.2.2.2.2.1 x.2.2.2.2.2.2.2.2.2.2.1 x.2.2.2.2.2.2.2.2.2.2.2.1 x.2.2.2.2.2.2.2.2.2.2.2.2.1 x.2.2.2.2.2.2.2.2.2.2.2.2.2.1 w)) (body := cd (bodyOf f16) [1, 1, 1, 1, 1, 0, 1, 0, 0, 1, 1, 0, 0, 1, 1, 0, 1, 0, 0]) (escrow_Deal_Eok K) (escrow_Deal_Rok K) rfl (Orc.nil _ _ _) (by kernel_rfl) (fun _ _ => by kernel_rfl) (fun _ _ _ => by kernel_rfl) n
noncomputable def escrow_Deal_l1_se (K : Nat) : SE := stmtN [(0, .int .u16), (1, .sl), (2, .int .i64), (3, .int .i64), (4, .sl), (13, .sl), (14, .sl), (15, .int .i64), (17, .sl), (38, .sl), (39, .int .i64), (40, .int .i64), (48, .int .i64), (49, .int .i64)] [(17, .sl)] [(17, 19), (49, 65)] (fun x w => escrow_Deal_l1 K K x.1 x.2.1 x.2.2.1 x.2.2.2.1 x.2.2.2.2.1 x.2.2.2.2.2.1 x.2.2.2.2.2.2.1 x.2.2.2.2.2.2.2.1 x.2.2.2.2.2.2.2.2.1 x.2.2.2.2.2.2.2.2.2.1 x.2.2.2.2.2.2.2.2.2.2.1 x.2.2.2.2.2.2.2.2.2.2.2.1 x.2.2.2.2.2.2.2.2.2.2.2.2.1 x.2.2.2.2.2.2.2.2.2.2.2.2.2.1 w)
theorem escrow_Deal_l1_se_ok (K : Nat) (R : Rg) (h : subRB [(17, 19), (49, 65)] R = true) : (escrow_Deal_l1_se K).Ok prog R (.block 2 (.loop (cd (bodyOf f16) [1, 1, 1, 1, 1, 0, 1, 0, 0, 1, 1, 0, 0, 1, 1, 0, 1, 0, 0]))) := stmtN_ok (Li := [(0, .int .u16), (1, .sl), (2, .int .i64), (3, .int .i64), (4, .sl), (13, .sl), (14, .sl), (15, .int .i64), (17, .sl), (38, .sl), (39, .int .i64), (40, .int .i64), (48, .int .i64), (49, .int .i64)]) (Lo := [(17, .sl)]) (S := (fun x w => escrow_Deal_l1 K K x.1 x.2.1 x.2.2.1 x.2.2.2.1 x.2.2.2.2.1 x.2.2.2.2.2.1 x.2.2.2.2.2.2.1 x.2.2.2.2.2.2.2.1 x.2.2.2.2.2.2.2.2.1 x.2.2.2.2.2.2.2.2.2.1 x.2.2.2.2.2.2.2.2.2.2.1 x.2.2.2.2.2.2.2.2.2.2.2.1 x.2.2.2.2.2.2.2.2.2.2.2.2.1 x.2.2.2.2.2.2.2.2.2.2.2.2.2.1 w)) (escrow_Deal_l1_ok K K) (subR_of h)
theorem escrow_Deal_l0_ok (K : Nat) (n : Nat) : StmtNOk prog [(0, .int .u16), (1, .sl), (2, .int .i64), (3, .int .i64), (4, .sl), (13, .sl), (14, .sl), (38, .sl), (39, .int .i64), (40, .int .i64)] [(14, .sl)] [(14, 19), (40, 71)] ((fun n x w => escrow_Deal_l0 K n x.1 x.2.1 x.2.2.1 x.2.2.2.1 x.2.2.2.2.1 x.2.2.2.2.2.1 x.2.2.2.2.2.2.1 x.2.2.2.2.2.2.2.1 x.2.2.2.2.2.2.2.2.1 x.2.2.2.2.2.2.2.2.2.1 w) n) (.block 0 (.loop (cd (bodyOf f16) [1, 1, 1, 1, 1, 0, 1, 0, 0]))) :=
    mk_loopN (O := tabL [([1, 1, 1, 1, 1, 0, 1, 0, 0, 1, 1, 0, 0, 1, 1, 0, 1], escrow_Deal_l1_se K)]) (root := (bodyOf f16)) (π := [1, 1, 1, 1, 1, 0, 1, 0, 0]) (id := 0) (Li := [(0, .int .u16), (1, .sl), (2, .int .i64), (3, .int .i64), (4, .sl), (13, .sl), (14, .sl), (38, .sl), (39, .int .i64), (40, .int .i64)]) (Lo := [(14, .sl)]) (S := (fun n x w => escrow_Deal_l0 K n x.1 x.2.1 x.2.2.1 x.2.2.2.1 x.2.2.2.2.1 x.2.2.2.2.2.1 x.2.2.2.2.2.2.1 x.2.2.2.2.2.2.2.1 x.2.2.2.2.2.2.2.2.1 x.2.2.2.2.2.2.2.2.2.1 w)) (body := cd (bodyOf f16) [1, 1, 1, 1, 1, 0, 1, 0, 0]) (escrow_Deal_Eok K) (escrow_Deal_Rok K) rfl (Orc.cons (by kernel_rfl) (escrow_Deal_l1_se_ok K [(14, 19), (40, 71)] (by kernel_rfl)) (Orc.nil _ _ _)) (by kernel_rfl) (fun _ _ => by kernel_rfl) (fun _ _ _ => by kernel_rfl) n
noncomputable def escrow_Deal_l0_se (K : Nat) : SE := stmtN [(0, .int .u16), (1, .sl), (2, .int .i64), (3, .int .i64), (4, .sl), (13, .sl), (14, .sl), (38, .sl), (39, .int .i64), (40, .int .i64)] [(14, .sl)] [(14, 19), (40, 71)] (fun x w => escrow_Deal_l0 K K x.1 x.2.1 x.2.2.1 x.2.2.2.1 x.2.2.2.2.1 x.2.2.2.2.2.1 x.2.2.2.2.2.2.1 x.2.2.2.2.2.2.2.1 x.2.2.2.2.2.2.2.2.1 x.2.2.2.2.2.2.2.2.2.1 w)
theorem escrow_Deal_l0_se_ok (K : Nat) (R : Rg) (h : subRB [(14, 19), (40, 71)] R = true) : (escrow_Deal_l0_se K).Ok prog R (.block 0 (.loop (cd (bodyOf f16) [1, 1, 1, 1, 1, 0, 1, 0, 0]))) := stmtN_ok (Li := [(0, .int .u16), (1, .sl), (2, .int .i64), (3, .int .i64), (4, .sl), (13, .sl), (14, .sl), (38, .sl), (39, .int .i64), (40, .int .i64)]) (Lo := [(14, .sl)]) (S := (fun x w => escrow_Deal_l0 K K x.1 x.2.1 x.2.2.1 x.2.2.2.1 x.2.2.2.2.1 x.2.2.2.2.2.1 x.2.2.2.2.2.2.1 x.2.2.2.2.2.2.2.1 x.2.2.2.2.2.2.2.2.1 x.2.2.2.2.2.2.2.2.2.1 w)) (escrow_Deal_l0_ok K K) (subR_of h)
theorem escrow_Deal_l2_ok (K : Nat) (n : Nat) : StmtNOk prog [(0, .int .u16), (1, .sl), (2, .int .i64), (3, .int .i64), (14, .sl), (19, .sl), (20, .int .i64)] [(19, .sl)] [(19, 21), (71, 90)] ((fun n x w => escrow_Deal_l2 K n x.1 x.2.1 x.2.2.1 x.2.2.2.1 x.2.2.2.2.1 x.2.2.2.2.2.1 x.2.2.2.2.2.2.1 w) n) (.block 4 (.loop (cd (bodyOf f16) [1, 1, 1, 1, 1, 1, 1, 0, 1, 0, 0]))) :=
    mk_loopN (O := tabL []) (root := (bodyOf f16)) (π := [1, 1, 1, 1, 1, 1, 1, 0, 1, 0, 0]) (id := 4) (Li := [(0, .int .u16), (1, .sl), (2, .int .i64), (3, .int .i64), (14, .sl), (19, .sl), (20, .int .i64)]) (Lo := [(19, .sl)]) (S := (fun n x w => escrow_Deal_l2 K n x.1 x.2.1 x.2.2.1 x.2.2.2.1 x.2.2.2.2.1 x.2.2.2.2.2.1 x.2.2.2.2.2.2.1 w)) (body := cd (bodyOf f16) [1, 1, 1, 1, 1, 1, 1, 0, 1, 0, 0]) (escrow_Deal_Eok K) (escrow_Deal_Rok K) rfl (Orc.nil _ _ _) (by kernel_rfl) (fun _ _ => by kernel_rfl) (fun _ _ _ => by kernel_rfl) n
noncomputable def escrow_Deal_l2_se (K : Nat) : SE := stmtN [(0, .int .u16), (1, .sl), (2, .int .i64), (3, .int .i64), (14, .sl), (19, .sl), (20, .int .i64)] [(19, .sl)] [(19, 21), (71, 90)] (fun x w => escrow_Deal_l2 K K x.1 x.2.1 x.2.2.1 x.2.2.2.1 x.2.2.2.2.1 x.2.2.2.2.2.1 x.2.2.2.2.2.2.1 w)
theorem escrow_Deal_l2_se_ok (K : Nat) (R : Rg) (h : subRB [(19, 21), (71, 90)] R = true) : (escrow_Deal_l2_se K).Ok prog R (.block 4 (.loop (cd (bodyOf f16) [1, 1, 1, 1, 1, 1, 1, 0, 1, 0, 0]))) := stmtN_ok (Li := [(0, .int .u16), (1, .sl), (2, .int .i64), (3, .int .i64), (14, .sl), (19, .sl), (20, .int .i64)]) (Lo := [(19, .sl)]) (S := (fun x w => escrow_Deal_l2 K K x.1 x.2.1 x.2.2.1 x.2.2.2.1 x.2.2.2.2.1 x.2.2.2.2.2.1 x.2.2.2.2.2.2.1 w)) (escrow_Deal_l2_ok K K) (subR_of h)
theorem escrow_Deal_facts : FunFacts prog 16 f16 (bodyOf f16) [(0, .int .u16), (1, .sl), (2, .int .i64), (3, .int .i64), (4, .sl)] [(0, 91)] := ⟨func16, by kernel_rfl, by kernel_rfl, by kernel_rfl, by kernel_rfl, by kernel_rfl⟩
theorem escrow_Deal_calls (K : Nat) (x : TT [(0, .int .u16), (1, .sl), (2, .int .i64), (3, .int .i64), (4, .sl)]) (w : World) (y : TR [.sl, .int .i64]) (w2 : World) (h : escrow_Deal K x.1 x.2.1 x.2.2.1 x.2.2.2.1 x.2.2.2.2.1 w = some (y, w2)) : Calls prog 16 (encA [(0, .int .u16), (1, .sl), (2, .int .i64), (3, .int .i64), (4, .sl)] x).toArray w (fun e w3 => e = .returned (resV (encR [.sl, .int .i64] y)) ∧ w3 = w2) :=
    mk_fun (O := tabL [([1, 1, 1, 1, 1, 0, 1], escrow_Deal_l0_se K), ([1, 1, 1, 1, 1, 0, 1, 0, 0, 1, 1, 0, 0, 1, 1, 0, 1], escrow_Deal_l1_se K), ([1, 1, 1, 1, 1, 1, 1, 0, 1], escrow_Deal_l2_se K)]) (Lp := [(0, .int .u16), (1, .sl), (2, .int .i64), (3, .int .i64), (4, .sl)]) (Rt := [.sl, .int .i64]) (S := (fun x w => escrow_Deal K x.1 x.2.1 x.2.2.1 x.2.2.2.1 x.2.2.2.2.1 w)) (escrow_Deal_Eok K) (escrow_Deal_Rok K) rfl escrow_Deal_facts (Orc.cons (by kernel_rfl) (escrow_Deal_l0_se_ok K [(0, 91)] (by kernel_rfl)) (Orc.cons (by kernel_rfl) (escrow_Deal_l1_se_ok K [(0, 91)] (by kernel_rfl)) (Orc.cons (by kernel_rfl) (escrow_Deal_l2_se_ok K [(0, 91)] (by kernel_rfl)) (Orc.nil _ _ _)))) (fun _ _ => by kernel_rfl) x w y w2 h
noncomputable def escrow_Deal_ce (K : Nat) : CE := funE [(0, .int .u16), (1, .sl), (2, .int .i64), (3, .int .i64), (4, .sl)] [.sl, .int .i64] (fun x w => escrow_Deal K x.1 x.2.1 x.2.2.1 x.2.2.2.1 x.2.2.2.2.1 w)
theorem escrow_Deal_ok (K : Nat) : (escrow_Deal_ce K).Ok prog 16 := funE_ok (Rt := [.sl, .int .i64]) (S := (fun x w => escrow_Deal K x.1 x.2.1 x.2.2.1 x.2.2.2.1 x.2.2.2.2.1 w)) escrow_Deal_facts fun x w y w2 h => escrow_Deal_calls K x w y w2 h

noncomputable def law11_num_R : List (Nat × RE) := []
theorem law11_num_Rok : REnv.Ok prog (tab (law11_num_R)) := (REnv.nil _)
/-- coffer/cofferlaw11.num -/
noncomputable def law11_num (e0 : Int) : Option (Int × Unit) :=
  some (e0, ())
theorem law11_num_facts : FunFacts prog 19 f19 (bodyOf f19) [(0, .int .i64)] [(0, 4)] := ⟨func19, by kernel_rfl, by kernel_rfl, by kernel_rfl, by kernel_rfl, by kernel_rfl⟩
theorem law11_num_calls (x : TT [(0, .int .i64)]) (w : World) (y : TR [.int .i64]) (h : law11_num x.1 = some y) : Calls prog 19 (encA [(0, .int .i64)] x).toArray w (fun e w3 => e = .returned (resV (encR [.int .i64] y)) ∧ w3 = w) :=
    mk_funQ (O := tabL []) (Lp := [(0, .int .i64)]) (Rt := [.int .i64]) (S := (fun x w => law11_num x.1)) (law11_num_Rok) law11_num_facts (OrcQ.nil _ _ _) (fun _ _ => by kernel_rfl) x w y h
noncomputable def law11_num_re : RE := funR [(0, .int .i64)] [.int .i64] (fun x w => law11_num x.1)
theorem law11_num_ok : (law11_num_re).Ok prog 19 := funR_ok (Rt := [.int .i64]) (S := (fun x w => law11_num x.1)) law11_num_facts fun x w y h => law11_num_calls x w y h

noncomputable def book_SameTexts_E (K : Nat) : List (Nat × CE) := []
theorem book_SameTexts_Eok (K : Nat) : Env.Ok prog (tab (book_SameTexts_E K)) := (Env.nil _)
noncomputable def book_SameTexts_R (K : Nat) : List (Nat × RE) := []
theorem book_SameTexts_Rok (K : Nat) : REnv.Ok prog (tab (book_SameTexts_R K)) := (REnv.nil _)
noncomputable def book_SameTexts_l0_b (K : Nat) (rec : Sl → Sl → Int → World → Option ((Out (Unit) (Bool × Unit)) × World)) (a0 : Sl) (b1 : Sl) (i5 : Int) (w : World) : Option ((Out (Unit) (Bool × Unit)) × World) :=
  if (decide (i5 < ((a0.len : Nat) : Int))) = true then ((a0.a).bind fun p_1 =>
  if (0 : Int) ≤ i5 ∧ i5 < ((a0.len : Nat) : Int) then ((b1.a).bind fun p_2 =>
  if (0 : Int) ≤ i5 ∧ i5 < ((b1.len : Nat) : Int) then ((ldStr (p_1.add ((Int.toNat i5) * 1)) w.drew).bind fun v_3 =>
  (ldStr (p_2.add ((Int.toNat i5) * 1)) w.drew).bind fun v_4 =>
  if (!(v_3.toList == v_4.toList)) = true then (some (.ret (false, ()), w.drew)) else (rec a0 b1 (IntKind.i64.wrap (i5 + 1)) w.drew)) else none) else none) else (some (.norm (), w))
noncomputable def book_SameTexts_l0 (K : Nat) (n : Nat) : Sl → Sl → Int → World → Option ((Out (Unit) (Bool × Unit)) × World) := iter (fun _ _ _ _ => none) (book_SameTexts_l0_b K) n
/-- coffer/cofferbook.SameTexts -/
noncomputable def book_SameTexts (K : Nat) (a0 : Sl) (b1 : Sl) (w : World) : Option ((Bool × Unit) × World) :=
  if (((a0.len : Nat) : Int) != ((b1.len : Nat) : Int)) = true then (some ((false, ()), w)) else (bnd (book_SameTexts_l0 K K a0 b1 0 w) fun y_5 w_6 =>
  (match y_5 with
  | .norm z_7n => (some ((true, ()), w_6))
  | .ret z_7r => (some ((z_7r.1, ()), w_6))))
theorem book_SameTexts_l0_ok (K : Nat) (n : Nat) : StmtOk prog [(0, .sl), (1, .sl), (5, .int .i64)] [] [(4, .bool)] [(4, 6), (11, 26)] ((fun n x w => book_SameTexts_l0 K n x.1 x.2.1 x.2.2.1 w) n) (.block 0 (.loop (cd (bodyOf f20) [1, 1, 0, 1, 0, 0]))) :=
    mk_loop (O := tabL []) (root := (bodyOf f20)) (π := [1, 1, 0, 1, 0, 0]) (id := 0) (Li := [(0, .sl), (1, .sl), (5, .int .i64)]) (Lo := []) (Lr := [(4, .bool)]) (S := (fun n x w => book_SameTexts_l0 K n x.1 x.2.1 x.2.2.1 w)) (body := cd (bodyOf f20) [1, 1, 0, 1, 0, 0]) (book_SameTexts_Eok K) (book_SameTexts_Rok K) rfl (Orc.nil _ _ _) (by kernel_rfl) (fun _ _ => by kernel_rfl) (fun _ _ _ => by kernel_rfl) n
noncomputable def book_SameTexts_l0_se (K : Nat) : SE := stmt [(0, .sl), (1, .sl), (5, .int .i64)] [] [(4, .bool)] [(4, 6), (11, 26)] (fun x w => book_SameTexts_l0 K K x.1 x.2.1 x.2.2.1 w)
theorem book_SameTexts_l0_se_ok (K : Nat) (R : Rg) (h : subRB [(4, 6), (11, 26)] R = true) : (book_SameTexts_l0_se K).Ok prog R (.block 0 (.loop (cd (bodyOf f20) [1, 1, 0, 1, 0, 0]))) := stmt_ok (Li := [(0, .sl), (1, .sl), (5, .int .i64)]) (Lo := []) (Lr := [(4, .bool)]) (S := (fun x w => book_SameTexts_l0 K K x.1 x.2.1 x.2.2.1 w)) (book_SameTexts_l0_ok K K) (subR_of h)
theorem book_SameTexts_facts : FunFacts prog 20 f20 (bodyOf f20) [(0, .sl), (1, .sl)] [(0, 26)] := ⟨func20, by kernel_rfl, by kernel_rfl, by kernel_rfl, by kernel_rfl, by kernel_rfl⟩
theorem book_SameTexts_calls (K : Nat) (x : TT [(0, .sl), (1, .sl)]) (w : World) (y : TR [.bool]) (w2 : World) (h : book_SameTexts K x.1 x.2.1 w = some (y, w2)) : Calls prog 20 (encA [(0, .sl), (1, .sl)] x).toArray w (fun e w3 => e = .returned (resV (encR [.bool] y)) ∧ w3 = w2) :=
    mk_fun (O := tabL [([1, 1, 0, 1], book_SameTexts_l0_se K)]) (Lp := [(0, .sl), (1, .sl)]) (Rt := [.bool]) (S := (fun x w => book_SameTexts K x.1 x.2.1 w)) (book_SameTexts_Eok K) (book_SameTexts_Rok K) rfl book_SameTexts_facts (Orc.cons (by kernel_rfl) (book_SameTexts_l0_se_ok K [(0, 26)] (by kernel_rfl)) (Orc.nil _ _ _)) (fun _ _ => by kernel_rfl) x w y w2 h
noncomputable def book_SameTexts_ce (K : Nat) : CE := funE [(0, .sl), (1, .sl)] [.bool] (fun x w => book_SameTexts K x.1 x.2.1 w)
theorem book_SameTexts_ok (K : Nat) : (book_SameTexts_ce K).Ok prog 20 := funE_ok (Rt := [.bool]) (S := (fun x w => book_SameTexts K x.1 x.2.1 w)) book_SameTexts_facts fun x w y w2 h => book_SameTexts_calls K x w y w2 h

noncomputable def book_SameBytes_E (K : Nat) : List (Nat × CE) := []
theorem book_SameBytes_Eok (K : Nat) : Env.Ok prog (tab (book_SameBytes_E K)) := (Env.nil _)
noncomputable def book_SameBytes_R (K : Nat) : List (Nat × RE) := []
theorem book_SameBytes_Rok (K : Nat) : REnv.Ok prog (tab (book_SameBytes_R K)) := (REnv.nil _)
noncomputable def book_SameBytes_l0_b (K : Nat) (rec : Sl → Sl → Int → World → Option ((Out (Unit) (Bool × Unit)) × World)) (a0 : Sl) (b1 : Sl) (i5 : Int) (w : World) : Option ((Out (Unit) (Bool × Unit)) × World) :=
  if (decide (i5 < ((a0.len : Nat) : Int))) = true then ((a0.a).bind fun p_1 =>
  if (0 : Int) ≤ i5 ∧ i5 < ((a0.len : Nat) : Int) then ((b1.a).bind fun p_2 =>
  if (0 : Int) ≤ i5 ∧ i5 < ((b1.len : Nat) : Int) then ((ldI .u8 (p_1.add ((Int.toNat i5) * 1)) w.drew).bind fun v_3 =>
  (ldI .u8 (p_2.add ((Int.toNat i5) * 1)) w.drew).bind fun v_4 =>
  if (v_3 != v_4) = true then (some (.ret (false, ()), w.drew)) else (rec a0 b1 (IntKind.i64.wrap (i5 + 1)) w.drew)) else none) else none) else (some (.norm (), w))
noncomputable def book_SameBytes_l0 (K : Nat) (n : Nat) : Sl → Sl → Int → World → Option ((Out (Unit) (Bool × Unit)) × World) := iter (fun _ _ _ _ => none) (book_SameBytes_l0_b K) n
/-- coffer/cofferbook.SameBytes -/
noncomputable def book_SameBytes (K : Nat) (a0 : Sl) (b1 : Sl) (w : World) : Option ((Bool × Unit) × World) :=
  if (((a0.len : Nat) : Int) != ((b1.len : Nat) : Int)) = true then (some ((false, ()), w)) else (bnd (book_SameBytes_l0 K K a0 b1 0 w) fun y_5 w_6 =>
  (match y_5 with
  | .norm z_7n => (some ((true, ()), w_6))
  | .ret z_7r => (some ((z_7r.1, ()), w_6))))
theorem book_SameBytes_l0_ok (K : Nat) (n : Nat) : StmtOk prog [(0, .sl), (1, .sl), (5, .int .i64)] [] [(4, .bool)] [(4, 6), (11, 26)] ((fun n x w => book_SameBytes_l0 K n x.1 x.2.1 x.2.2.1 w) n) (.block 0 (.loop (cd (bodyOf f30) [1, 1, 0, 1, 0, 0]))) :=
    mk_loop (O := tabL []) (root := (bodyOf f30)) (π := [1, 1, 0, 1, 0, 0]) (id := 0) (Li := [(0, .sl), (1, .sl), (5, .int .i64)]) (Lo := []) (Lr := [(4, .bool)]) (S := (fun n x w => book_SameBytes_l0 K n x.1 x.2.1 x.2.2.1 w)) (body := cd (bodyOf f30) [1, 1, 0, 1, 0, 0]) (book_SameBytes_Eok K) (book_SameBytes_Rok K) rfl (Orc.nil _ _ _) (by kernel_rfl) (fun _ _ => by kernel_rfl) (fun _ _ _ => by kernel_rfl) n
noncomputable def book_SameBytes_l0_se (K : Nat) : SE := stmt [(0, .sl), (1, .sl), (5, .int .i64)] [] [(4, .bool)] [(4, 6), (11, 26)] (fun x w => book_SameBytes_l0 K K x.1 x.2.1 x.2.2.1 w)
theorem book_SameBytes_l0_se_ok (K : Nat) (R : Rg) (h : subRB [(4, 6), (11, 26)] R = true) : (book_SameBytes_l0_se K).Ok prog R (.block 0 (.loop (cd (bodyOf f30) [1, 1, 0, 1, 0, 0]))) := stmt_ok (Li := [(0, .sl), (1, .sl), (5, .int .i64)]) (Lo := []) (Lr := [(4, .bool)]) (S := (fun x w => book_SameBytes_l0 K K x.1 x.2.1 x.2.2.1 w)) (book_SameBytes_l0_ok K K) (subR_of h)
theorem book_SameBytes_facts : FunFacts prog 30 f30 (bodyOf f30) [(0, .sl), (1, .sl)] [(0, 26)] := ⟨func30, by kernel_rfl, by kernel_rfl, by kernel_rfl, by kernel_rfl, by kernel_rfl⟩
theorem book_SameBytes_calls (K : Nat) (x : TT [(0, .sl), (1, .sl)]) (w : World) (y : TR [.bool]) (w2 : World) (h : book_SameBytes K x.1 x.2.1 w = some (y, w2)) : Calls prog 30 (encA [(0, .sl), (1, .sl)] x).toArray w (fun e w3 => e = .returned (resV (encR [.bool] y)) ∧ w3 = w2) :=
    mk_fun (O := tabL [([1, 1, 0, 1], book_SameBytes_l0_se K)]) (Lp := [(0, .sl), (1, .sl)]) (Rt := [.bool]) (S := (fun x w => book_SameBytes K x.1 x.2.1 w)) (book_SameBytes_Eok K) (book_SameBytes_Rok K) rfl book_SameBytes_facts (Orc.cons (by kernel_rfl) (book_SameBytes_l0_se_ok K [(0, 26)] (by kernel_rfl)) (Orc.nil _ _ _)) (fun _ _ => by kernel_rfl) x w y w2 h
noncomputable def book_SameBytes_ce (K : Nat) : CE := funE [(0, .sl), (1, .sl)] [.bool] (fun x w => book_SameBytes K x.1 x.2.1 w)
theorem book_SameBytes_ok (K : Nat) : (book_SameBytes_ce K).Ok prog 30 := funE_ok (Rt := [.bool]) (S := (fun x w => book_SameBytes K x.1 x.2.1 w)) book_SameBytes_facts fun x w y w2 h => book_SameBytes_calls K x w y w2 h

noncomputable def book_WholeBytes_E (K : Nat) : List (Nat × CE) := [(30, book_SameBytes_ce K)]
theorem book_WholeBytes_Eok (K : Nat) : Env.Ok prog (tab (book_WholeBytes_E K)) := (Env.cons (book_SameBytes_ok K) (Env.nil _))
noncomputable def book_WholeBytes_R (K : Nat) : List (Nat × RE) := []
theorem book_WholeBytes_Rok (K : Nat) : REnv.Ok prog (tab (book_WholeBytes_R K)) := (REnv.nil _)
noncomputable def book_WholeBytes_l0_b (K : Nat) (rec : Int → Sl → Int → World → Option ((Out (Unit) (Bool × Unit)) × World)) (n5 : Int) (all6 : Sl) (i7 : Int) (w : World) : Option ((Out (Unit) (Bool × Unit)) × World) :=
  if (decide (i7 < 70)) = true then ((all6.a).bind fun p_3 =>
  if (0 : Int) ≤ (IntKind.i64.wrap (n5 + i7)) ∧ (IntKind.i64.wrap (n5 + i7)) < ((all6.len : Nat) : Int) then ((ldI .u8 (p_3.add ((Int.toNat (IntKind.i64.wrap (n5 + i7))) * 1)) w).bind fun v_4 =>
  if (v_4 != (IntKind.u8.wrap (IntKind.i64.wrap (181 + i7)))) = true then (some (.ret (false, ()), w)) else (rec n5 all6 (IntKind.i64.wrap (i7 + 1)) w)) else none) else (some (.norm (), w))
noncomputable def book_WholeBytes_l0 (K : Nat) (n : Nat) : Int → Sl → Int → World → Option ((Out (Unit) (Bool × Unit)) × World) := iter (fun _ _ _ _ => none) (book_WholeBytes_l0_b K) n
/-- coffer/cofferbook.WholeBytes -/
noncomputable def book_WholeBytes (K : Nat) (c0 : Sl) (l1 : Sl) (w : World) : Option ((Bool × Unit) × World) :=
  bnd (book_SameBytes K c0 l1 w) fun r_1 w_2 =>
  if (!r_1.1) = true then (some ((false, ()), w_2)) else (if (0 : Int) ≤ (IntKind.i64.wrap (((c0.len : Nat) : Int) + 70)) ∧ (IntKind.i64.wrap (((c0.len : Nat) : Int) + 70)) ≤ ((c0.cap : Nat) : Int) then (bnd (book_WholeBytes_l0 K K ((c0.len : Nat) : Int) ⟨(sla c0.a 0 c0.cap 1), ((Int.toNat ((IntKind.i64.wrap (((c0.len : Nat) : Int) + 70)))) - 0), (c0.cap - 0)⟩ 0 w_2) fun y_5 w_6 =>
  (match y_5 with
  | .norm z_7n => (some ((true, ()), w_6))
  | .ret z_7r => (some ((z_7r.1, ()), w_6)))) else none)
theorem book_WholeBytes_l0_ok (K : Nat) (n : Nat) : StmtOk prog [(5, .int .i64), (6, .sl), (7, .int .i64)] [] [(4, .bool)] [(4, 5), (7, 8), (18, 32)] ((fun n x w => book_WholeBytes_l0 K n x.1 x.2.1 x.2.2.1 w) n) (.block 0 (.loop (cd (bodyOf f21) [1, 1, 1, 1, 0, 1, 0, 0]))) :=
    mk_loop (O := tabL []) (root := (bodyOf f21)) (π := [1, 1, 1, 1, 0, 1, 0, 0]) (id := 0) (Li := [(5, .int .i64), (6, .sl), (7, .int .i64)]) (Lo := []) (Lr := [(4, .bool)]) (S := (fun n x w => book_WholeBytes_l0 K n x.1 x.2.1 x.2.2.1 w)) (body := cd (bodyOf f21) [1, 1, 1, 1, 0, 1, 0, 0]) (book_WholeBytes_Eok K) (book_WholeBytes_Rok K) rfl (Orc.nil _ _ _) (by kernel_rfl) (fun _ _ => by kernel_rfl) (fun _ _ _ => by kernel_rfl) n
noncomputable def book_WholeBytes_l0_se (K : Nat) : SE := stmt [(5, .int .i64), (6, .sl), (7, .int .i64)] [] [(4, .bool)] [(4, 5), (7, 8), (18, 32)] (fun x w => book_WholeBytes_l0 K K x.1 x.2.1 x.2.2.1 w)
theorem book_WholeBytes_l0_se_ok (K : Nat) (R : Rg) (h : subRB [(4, 5), (7, 8), (18, 32)] R = true) : (book_WholeBytes_l0_se K).Ok prog R (.block 0 (.loop (cd (bodyOf f21) [1, 1, 1, 1, 0, 1, 0, 0]))) := stmt_ok (Li := [(5, .int .i64), (6, .sl), (7, .int .i64)]) (Lo := []) (Lr := [(4, .bool)]) (S := (fun x w => book_WholeBytes_l0 K K x.1 x.2.1 x.2.2.1 w)) (book_WholeBytes_l0_ok K K) (subR_of h)
theorem book_WholeBytes_facts : FunFacts prog 21 f21 (bodyOf f21) [(0, .sl), (1, .sl)] [(0, 32)] := ⟨func21, by kernel_rfl, by kernel_rfl, by kernel_rfl, by kernel_rfl, by kernel_rfl⟩
theorem book_WholeBytes_calls (K : Nat) (x : TT [(0, .sl), (1, .sl)]) (w : World) (y : TR [.bool]) (w2 : World) (h : book_WholeBytes K x.1 x.2.1 w = some (y, w2)) : Calls prog 21 (encA [(0, .sl), (1, .sl)] x).toArray w (fun e w3 => e = .returned (resV (encR [.bool] y)) ∧ w3 = w2) :=
    mk_fun (O := tabL [([1, 1, 1, 1, 0, 1], book_WholeBytes_l0_se K)]) (Lp := [(0, .sl), (1, .sl)]) (Rt := [.bool]) (S := (fun x w => book_WholeBytes K x.1 x.2.1 w)) (book_WholeBytes_Eok K) (book_WholeBytes_Rok K) rfl book_WholeBytes_facts (Orc.cons (by kernel_rfl) (book_WholeBytes_l0_se_ok K [(0, 32)] (by kernel_rfl)) (Orc.nil _ _ _)) (fun _ _ => by kernel_rfl) x w y w2 h
noncomputable def book_WholeBytes_ce (K : Nat) : CE := funE [(0, .sl), (1, .sl)] [.bool] (fun x w => book_WholeBytes K x.1 x.2.1 w)
theorem book_WholeBytes_ok (K : Nat) : (book_WholeBytes_ce K).Ok prog 21 := funE_ok (Rt := [.bool]) (S := (fun x w => book_WholeBytes K x.1 x.2.1 w)) book_WholeBytes_facts fun x w y w2 h => book_WholeBytes_calls K x w y w2 h

noncomputable def book_SpoilTexts_E (K : Nat) : List (Nat × CE) := []
theorem book_SpoilTexts_Eok (K : Nat) : Env.Ok prog (tab (book_SpoilTexts_E K)) := (Env.nil _)
noncomputable def book_SpoilTexts_R (K : Nat) : List (Nat × RE) := []
theorem book_SpoilTexts_Rok (K : Nat) : REnv.Ok prog (tab (book_SpoilTexts_R K)) := (REnv.nil _)
noncomputable def book_SpoilTexts_l0_b (K : Nat) (rec : Sl → Int → World → Option ((Unit) × World)) (l0 : Sl) (i2 : Int) (w : World) : Option ((Unit) × World) :=
  if (decide (i2 < ((l0.len : Nat) : Int))) = true then ((l0.a).bind fun p_1 =>
  if (0 : Int) ≤ i2 ∧ i2 < ((l0.len : Nat) : Int) then ((stC (p_1.add ((Int.toNat i2) * 1)) (.string str4) w).bind fun w_2 =>
  rec l0 (IntKind.i64.wrap (i2 + 1)) w_2) else none) else (some ((), w))
noncomputable def book_SpoilTexts_l0 (K : Nat) (n : Nat) : Sl → Int → World → Option ((Unit) × World) := iter (fun _ _ _ => none) (book_SpoilTexts_l0_b K) n
noncomputable def book_SpoilTexts_l1_b (K : Nat) (rec : Sl → Int → World → Option ((Sl × Unit) × World)) (l0 : Sl) (i3 : Int) (w : World) : Option ((Sl × Unit) × World) :=
  if (decide (i3 < 70)) = true then (bnd (bldS prog 29 1 #[(0, (.string str5))] w) fun s_5 w_6 =>
  bnd (apd prog 29 29 (.slice l0.a l0.len l0.cap) (.slice s_5.a s_5.len s_5.cap) w_6) fun s_7 w_8 =>
  rec s_7 (IntKind.i64.wrap (i3 + 1)) w_8) else (some ((l0, ()), w))
noncomputable def book_SpoilTexts_l1 (K : Nat) (n : Nat) : Sl → Int → World → Option ((Sl × Unit) × World) := iter (fun _ _ _ => none) (book_SpoilTexts_l1_b K) n
/-- coffer/cofferbook.SpoilTexts -/
noncomputable def book_SpoilTexts (K : Nat) (l0 : Sl) (w : World) : Option ((Unit) × World) :=
  bnd (book_SpoilTexts_l0 K K l0 0 w) fun y_3 w_4 =>
  bnd (book_SpoilTexts_l1 K K l0 0 w_4) fun y_9 w_10 =>
  (y_9.1.a).bind fun p_11 =>
  if (0 : Int) ≤ (IntKind.i64.wrap (((y_9.1.len : Nat) : Int) - 1)) ∧ (IntKind.i64.wrap (((y_9.1.len : Nat) : Int) - 1)) < ((y_9.1.len : Nat) : Int) then ((stC (p_11.add ((Int.toNat (IntKind.i64.wrap (((y_9.1.len : Nat) : Int) - 1))) * 1)) (.string str6) w_10).bind fun w_12 =>
  some ((), w_12)) else none
theorem book_SpoilTexts_l0_ok (K : Nat) (n : Nat) : StmtNOk prog [(0, .sl), (2, .int .i64)] [] [(2, 3), (4, 13)] ((fun n x w => book_SpoilTexts_l0 K n x.1 x.2.1 w) n) (.block 0 (.loop (cd (bodyOf f22) [0, 1, 0, 0]))) :=
    mk_loopN (O := tabL []) (root := (bodyOf f22)) (π := [0, 1, 0, 0]) (id := 0) (Li := [(0, .sl), (2, .int .i64)]) (Lo := []) (S := (fun n x w => book_SpoilTexts_l0 K n x.1 x.2.1 w)) (body := cd (bodyOf f22) [0, 1, 0, 0]) (book_SpoilTexts_Eok K) (book_SpoilTexts_Rok K) rfl (Orc.nil _ _ _) (by kernel_rfl) (fun _ _ => by kernel_rfl) (fun _ _ _ => by kernel_rfl) n
noncomputable def book_SpoilTexts_l0_se (K : Nat) : SE := stmtN [(0, .sl), (2, .int .i64)] [] [(2, 3), (4, 13)] (fun x w => book_SpoilTexts_l0 K K x.1 x.2.1 w)
theorem book_SpoilTexts_l0_se_ok (K : Nat) (R : Rg) (h : subRB [(2, 3), (4, 13)] R = true) : (book_SpoilTexts_l0_se K).Ok prog R (.block 0 (.loop (cd (bodyOf f22) [0, 1, 0, 0]))) := stmtN_ok (Li := [(0, .sl), (2, .int .i64)]) (Lo := []) (S := (fun x w => book_SpoilTexts_l0 K K x.1 x.2.1 w)) (book_SpoilTexts_l0_ok K K) (subR_of h)
theorem book_SpoilTexts_l1_ok (K : Nat) (n : Nat) : StmtNOk prog [(0, .sl), (3, .int .i64)] [(0, .sl)] [(0, 1), (3, 4), (13, 20)] ((fun n x w => book_SpoilTexts_l1 K n x.1 x.2.1 w) n) (.block 2 (.loop (cd (bodyOf f22) [1, 0, 1, 0, 0]))) :=
    mk_loopN (O := tabL []) (root := (bodyOf f22)) (π := [1, 0, 1, 0, 0]) (id := 2) (Li := [(0, .sl), (3, .int .i64)]) (Lo := [(0, .sl)]) (S := (fun n x w => book_SpoilTexts_l1 K n x.1 x.2.1 w)) (body := cd (bodyOf f22) [1, 0, 1, 0, 0]) (book_SpoilTexts_Eok K) (book_SpoilTexts_Rok K) rfl (Orc.nil _ _ _) (by kernel_rfl) (fun _ _ => by kernel_rfl) (fun _ _ _ => by kernel_rfl) n
noncomputable def book_SpoilTexts_l1_se (K : Nat) : SE := stmtN [(0, .sl), (3, .int .i64)] [(0, .sl)] [(0, 1), (3, 4), (13, 20)] (fun x w => book_SpoilTexts_l1 K K x.1 x.2.1 w)
theorem book_SpoilTexts_l1_se_ok (K : Nat) (R : Rg) (h : subRB [(0, 1), (3, 4), (13, 20)] R = true) : (book_SpoilTexts_l1_se K).Ok prog R (.block 2 (.loop (cd (bodyOf f22) [1, 0, 1, 0, 0]))) := stmtN_ok (Li := [(0, .sl), (3, .int .i64)]) (Lo := [(0, .sl)]) (S := (fun x w => book_SpoilTexts_l1 K K x.1 x.2.1 w)) (book_SpoilTexts_l1_ok K K) (subR_of h)
theorem book_SpoilTexts_facts : FunFacts prog 22 f22 (bodyOf f22) [(0, .sl)] [(0, 25)] := ⟨func22, by kernel_rfl, by kernel_rfl, by kernel_rfl, by kernel_rfl, by kernel_rfl⟩
theorem book_SpoilTexts_calls (K : Nat) (x : TT [(0, .sl)]) (w : World) (y : TR []) (w2 : World) (h : book_SpoilTexts K x.1 w = some (y, w2)) : Calls prog 22 (encA [(0, .sl)] x).toArray w (fun e w3 => e = .returned (resV (encR [] y)) ∧ w3 = w2) :=
    mk_fun (O := tabL [([0, 1], book_SpoilTexts_l0_se K), ([1, 0, 1], book_SpoilTexts_l1_se K)]) (Lp := [(0, .sl)]) (Rt := []) (S := (fun x w => book_SpoilTexts K x.1 w)) (book_SpoilTexts_Eok K) (book_SpoilTexts_Rok K) rfl book_SpoilTexts_facts (Orc.cons (by kernel_rfl) (book_SpoilTexts_l0_se_ok K [(0, 25)] (by kernel_rfl)) (Orc.cons (by kernel_rfl) (book_SpoilTexts_l1_se_ok K [(0, 25)] (by kernel_rfl)) (Orc.nil _ _ _))) (fun _ _ => by kernel_rfl) x w y w2 h
noncomputable def book_SpoilTexts_ce (K : Nat) : CE := funE [(0, .sl)] [] (fun x w => book_SpoilTexts K x.1 w)
theorem book_SpoilTexts_ok (K : Nat) : (book_SpoilTexts_ce K).Ok prog 22 := funE_ok (Rt := []) (S := (fun x w => book_SpoilTexts K x.1 w)) book_SpoilTexts_facts fun x w y w2 h => book_SpoilTexts_calls K x w y w2 h

noncomputable def book_SpoilBytes_E (K : Nat) : List (Nat × CE) := []
theorem book_SpoilBytes_Eok (K : Nat) : Env.Ok prog (tab (book_SpoilBytes_E K)) := (Env.nil _)
noncomputable def book_SpoilBytes_R (K : Nat) : List (Nat × RE) := []
theorem book_SpoilBytes_Rok (K : Nat) : REnv.Ok prog (tab (book_SpoilBytes_R K)) := (REnv.nil _)
noncomputable def book_SpoilBytes_l0_b (K : Nat) (rec : Sl → Int → World → Option ((Unit) × World)) (l0 : Sl) (i2 : Int) (w : World) : Option ((Unit) × World) :=
  if (decide (i2 < ((l0.len : Nat) : Int))) = true then ((l0.a).bind fun p_1 =>
  if (0 : Int) ≤ i2 ∧ i2 < ((l0.len : Nat) : Int) then ((ldI .u8 (p_1.add ((Int.toNat i2) * 1)) w).bind fun v_2 =>
  (l0.a).bind fun p_3 =>
  if (0 : Int) ≤ i2 ∧ i2 < ((l0.len : Nat) : Int) then ((stC (p_3.add ((Int.toNat i2) * 1)) (.int .u8 (bits .xor .u8 v_2 165)) w).bind fun w_4 =>
  rec l0 (IntKind.i64.wrap (i2 + 1)) w_4) else none) else none) else (some ((), w))
noncomputable def book_SpoilBytes_l0 (K : Nat) (n : Nat) : Sl → Int → World → Option ((Unit) × World) := iter (fun _ _ _ => none) (book_SpoilBytes_l0_b K) n
noncomputable def book_SpoilBytes_l1_b (K : Nat) (rec : Sl → Int → World → Option ((Sl × Unit) × World)) (l0 : Sl) (i3 : Int) (w : World) : Option ((Sl × Unit) × World) :=
  if (decide (i3 < 70)) = true then (bnd (bldS prog 23 1 #[(0, (.int .u8 (IntKind.u8.wrap (IntKind.i64.wrap ((IntKind.i64.wrap (7 * i3)) + 3)))))] w) fun s_11 w_12 =>
  bnd (apd prog 23 23 (.slice l0.a l0.len l0.cap) (.slice s_11.a s_11.len s_11.cap) w_12) fun s_13 w_14 =>
  rec s_13 (IntKind.i64.wrap (i3 + 1)) w_14) else (some ((l0, ()), w))
noncomputable def book_SpoilBytes_l1 (K : Nat) (n : Nat) : Sl → Int → World → Option ((Sl × Unit) × World) := iter (fun _ _ _ => none) (book_SpoilBytes_l1_b K) n
/-- coffer/cofferbook.SpoilBytes -/
noncomputable def book_SpoilBytes (K : Nat) (l0 : Sl) (w : World) : Option ((Unit) × World) :=
  bnd (book_SpoilBytes_l0 K K l0 0 w) fun y_5 w_6 =>
  bnd (bldS prog 23 1 #[(0, (.int .u8 1))] w_6) fun s_7 w_8 =>
  bnd (apd prog 23 23 (.slice l0.a l0.len l0.cap) (.slice s_7.a s_7.len s_7.cap) w_8) fun s_9 w_10 =>
  bnd (book_SpoilBytes_l1 K K s_9 0 w_10) fun y_15 w_16 =>
  (y_15.1.a).bind fun p_17 =>
  if (0 : Int) ≤ (IntKind.i64.wrap (((y_15.1.len : Nat) : Int) - 1)) ∧ (IntKind.i64.wrap (((y_15.1.len : Nat) : Int) - 1)) < ((y_15.1.len : Nat) : Int) then ((stC (p_17.add ((Int.toNat (IntKind.i64.wrap (((y_15.1.len : Nat) : Int) - 1))) * 1)) (.int .u8 77) w_16).bind fun w_18 =>
  some ((), w_18)) else none
theorem book_SpoilBytes_l0_ok (K : Nat) (n : Nat) : StmtNOk prog [(0, .sl), (2, .int .i64)] [] [(2, 3), (4, 18)] ((fun n x w => book_SpoilBytes_l0 K n x.1 x.2.1 w) n) (.block 0 (.loop (cd (bodyOf f23) [0, 1, 0, 0]))) :=
    mk_loopN (O := tabL []) (root := (bodyOf f23)) (π := [0, 1, 0, 0]) (id := 0) (Li := [(0, .sl), (2, .int .i64)]) (Lo := []) (S := (fun n x w => book_SpoilBytes_l0 K n x.1 x.2.1 w)) (body := cd (bodyOf f23) [0, 1, 0, 0]) (book_SpoilBytes_Eok K) (book_SpoilBytes_Rok K) rfl (Orc.nil _ _ _) (by kernel_rfl) (fun _ _ => by kernel_rfl) (fun _ _ _ => by kernel_rfl) n
noncomputable def book_SpoilBytes_l0_se (K : Nat) : SE := stmtN [(0, .sl), (2, .int .i64)] [] [(2, 3), (4, 18)] (fun x w => book_SpoilBytes_l0 K K x.1 x.2.1 w)
theorem book_SpoilBytes_l0_se_ok (K : Nat) (R : Rg) (h : subRB [(2, 3), (4, 18)] R = true) : (book_SpoilBytes_l0_se K).Ok prog R (.block 0 (.loop (cd (bodyOf f23) [0, 1, 0, 0]))) := stmtN_ok (Li := [(0, .sl), (2, .int .i64)]) (Lo := []) (S := (fun x w => book_SpoilBytes_l0 K K x.1 x.2.1 w)) (book_SpoilBytes_l0_ok K K) (subR_of h)
theorem book_SpoilBytes_l1_ok (K : Nat) (n : Nat) : StmtNOk prog [(0, .sl), (3, .int .i64)] [(0, .sl)] [(0, 1), (3, 4), (21, 32)] ((fun n x w => book_SpoilBytes_l1 K n x.1 x.2.1 w) n) (.block 2 (.loop (cd (bodyOf f23) [1, 1, 0, 1, 0, 0]))) :=
    mk_loopN (O := tabL []) (root := (bodyOf f23)) (π := [1, 1, 0, 1, 0, 0]) (id := 2) (Li := [(0, .sl), (3, .int .i64)]) (Lo := [(0, .sl)]) (S := (fun n x w => book_SpoilBytes_l1 K n x.1 x.2.1 w)) (body := cd (bodyOf f23) [1, 1, 0, 1, 0, 0]) (book_SpoilBytes_Eok K) (book_SpoilBytes_Rok K) rfl (Orc.nil _ _ _) (by kernel_rfl) (fun _ _ => by kernel_rfl) (fun _ _ _ => by kernel_rfl) n
noncomputable def book_SpoilBytes_l1_se (K : Nat) : SE := stmtN [(0, .sl), (3, .int .i64)] [(0, .sl)] [(0, 1), (3, 4), (21, 32)] (fun x w => book_SpoilBytes_l1 K K x.1 x.2.1 w)
theorem book_SpoilBytes_l1_se_ok (K : Nat) (R : Rg) (h : subRB [(0, 1), (3, 4), (21, 32)] R = true) : (book_SpoilBytes_l1_se K).Ok prog R (.block 2 (.loop (cd (bodyOf f23) [1, 1, 0, 1, 0, 0]))) := stmtN_ok (Li := [(0, .sl), (3, .int .i64)]) (Lo := [(0, .sl)]) (S := (fun x w => book_SpoilBytes_l1 K K x.1 x.2.1 w)) (book_SpoilBytes_l1_ok K K) (subR_of h)
theorem book_SpoilBytes_facts : FunFacts prog 23 f23 (bodyOf f23) [(0, .sl)] [(0, 37)] := ⟨func23, by kernel_rfl, by kernel_rfl, by kernel_rfl, by kernel_rfl, by kernel_rfl⟩
theorem book_SpoilBytes_calls (K : Nat) (x : TT [(0, .sl)]) (w : World) (y : TR []) (w2 : World) (h : book_SpoilBytes K x.1 w = some (y, w2)) : Calls prog 23 (encA [(0, .sl)] x).toArray w (fun e w3 => e = .returned (resV (encR [] y)) ∧ w3 = w2) :=
    mk_fun (O := tabL [([0, 1], book_SpoilBytes_l0_se K), ([1, 1, 0, 1], book_SpoilBytes_l1_se K)]) (Lp := [(0, .sl)]) (Rt := []) (S := (fun x w => book_SpoilBytes K x.1 w)) (book_SpoilBytes_Eok K) (book_SpoilBytes_Rok K) rfl book_SpoilBytes_facts (Orc.cons (by kernel_rfl) (book_SpoilBytes_l0_se_ok K [(0, 37)] (by kernel_rfl)) (Orc.cons (by kernel_rfl) (book_SpoilBytes_l1_se_ok K [(0, 37)] (by kernel_rfl)) (Orc.nil _ _ _))) (fun _ _ => by kernel_rfl) x w y w2 h
noncomputable def book_SpoilBytes_ce (K : Nat) : CE := funE [(0, .sl)] [] (fun x w => book_SpoilBytes K x.1 w)
theorem book_SpoilBytes_ok (K : Nat) : (book_SpoilBytes_ce K).Ok prog 23 := funE_ok (Rt := []) (S := (fun x w => book_SpoilBytes K x.1 w)) book_SpoilBytes_facts fun x w y w2 h => book_SpoilBytes_calls K x w y w2 h

noncomputable def law11_EscrowDeals_E (K : Nat) : List (Nat × CE) := [(13, law11_Deal_random_ce K), (14, book_Bytes_ce K), (15, ref11_Deal_ce K), (16, escrow_Deal_ce K), (20, book_SameTexts_ce K), (21, book_WholeBytes_ce K), (22, book_SpoilTexts_ce K), (23, book_SpoilBytes_ce K)]
theorem law11_EscrowDeals_Eok (K : Nat) : Env.Ok prog (tab (law11_EscrowDeals_E K)) := (Env.cons (law11_Deal_random_ok K) (Env.cons (book_Bytes_ok K) (Env.cons (ref11_Deal_ok K) (Env.cons (escrow_Deal_ok K) (Env.cons (book_SameTexts_ok K) (Env.cons (book_WholeBytes_ok K) (Env.cons (book_SpoilTexts_ok K) (Env.cons (book_SpoilBytes_ok K) (Env.nil _)))))))))
noncomputable def law11_EscrowDeals_R (K : Nat) : List (Nat × RE) := [(12, law11_cut_re), (17, escrow_Random_re), (18, ref11_Random_re), (19, law11_num_re)]
theorem law11_EscrowDeals_Rok (K : Nat) : REnv.Ok prog (tab (law11_EscrowDeals_R K)) := (REnv.cons (law11_cut_ok) (REnv.cons (escrow_Random_ok) (REnv.cons (ref11_Random_ok) (REnv.cons (law11_num_ok) (REnv.nil _)))))
noncomputable def law11_EscrowDeals_s0 (K : Nat) (d1 : Addr) (f7 : Int) (e9 : Int) (g11 : Int) (w : World) : Option ((Bool × Unit) × World) :=
  (ldI .i64 (d1.add 2) w.drew).bind fun v_30 =>
  (ldS (d1.add 1) w.drew).bind fun v_31 =>
  (escrow_Random v_30 ((v_31.len : Nat) : Int)).bind fun r_32 =>
  (ldI .i64 (d1.add 2) w.drew).bind fun v_33 =>
  (ldS (d1.add 1) w.drew).bind fun v_34 =>
  (ref11_Random v_33 ((v_34.len : Nat) : Int)).bind fun r_35 =>
  if (r_32.1 != r_35.1) = true then (some ((true, ()), w.drew)) else ((law11_num e9).bind fun r_36 =>
  if (r_36.1 != f7) = true then (some ((true, ()), w.drew)) else ((law11_num g11).bind fun r_37 =>
  some (((r_37.1 != f7), ()), w.drew)))
noncomputable def law11_EscrowDeals_s1 (K : Nat) (d1 : Addr) (r3 : Sl) (secret4 : Sl) (random5 : Sl) (want6 : Sl) (a8 : Sl) (b10 : Sl) (w : World) : Option ((Bool × Unit) × World) :=
  bnd (book_SameTexts K a8 want6 w) fun r_40 w_41 =>
  if (!r_40.1) = true then (some ((true, ()), w_41)) else (bnd (book_SameTexts K b10 want6 w_41) fun r_42 w_43 =>
  if (!r_42.1) = true then (some ((true, ()), w_43)) else ((ldS (d1.add 1) w_43).bind fun v_44 =>
  bnd (book_WholeBytes K secret4 v_44 w_43) fun r_45 w_46 =>
  if (!r_45.1) = true then (some ((true, ()), w_46)) else (bnd (book_WholeBytes K random5 r3 w_46) fun r_47 w_48 =>
  some (((!r_47.1), ()), w_48))))
/-- coffer/cofferlaw11.EscrowDeals -/
noncomputable def law11_EscrowDeals (K : Nat) (d0 : Array Value) (w : World) : Option ((Bool × Unit) × World) :=
  bnd (newB d0 25 w) fun p_1 w_2 =>
  (ldS (p_1.add 1) w_2).bind fun v_3 =>
  (law11_cut v_3 100).bind fun r_4 =>
  (stC (p_1.add 1) (.slice r_4.1.a r_4.1.len r_4.1.cap) w_2).bind fun w_5 =>
  (ldA 6 p_1 w_5).bind fun v_6 =>
  bnd (law11_Deal_random K v_6 w_5) fun r_7 w_8 =>
  (ldS (p_1.add 1) w_8).bind fun v_9 =>
  bnd (book_Bytes K v_9 w_8) fun r_10 w_11 =>
  bnd (book_Bytes K r_7.1 w_11) fun r_12 w_13 =>
  (ldI .u16 (p_1.add 0) w_13).bind fun v_14 =>
  (ldS (p_1.add 1) w_13).bind fun v_15 =>
  (ldI .i64 (p_1.add 2) w_13).bind fun v_16 =>
  (ldI .i64 (p_1.add 3) w_13).bind fun v_17 =>
  bnd (ref11_Deal K v_14 v_15 v_16 v_17 r_7.1 w_13) fun r_18 w_19 =>
  (ldI .u16 (p_1.add 0) w_19).bind fun v_20 =>
  (ldI .i64 (p_1.add 2) w_19).bind fun v_21 =>
  (ldI .i64 (p_1.add 3) w_19).bind fun v_22 =>
  bnd (escrow_Deal K v_20 r_10.1 v_21 v_22 r_12.1 w_19) fun r_23 w_24 =>
  (ldI .u16 (p_1.add 0) w_24).bind fun v_25 =>
  (ldI .i64 (p_1.add 2) w_24).bind fun v_26 =>
  (ldI .i64 (p_1.add 3) w_24).bind fun v_27 =>
  bnd (escrow_Deal K v_25 r_10.1 v_26 v_27 r_12.1 w_24) fun r_28 w_29 =>
  bnd (law11_EscrowDeals_s0 K p_1 r_18.2.1 r_23.2.1 r_28.2.1 w_29) fun y_38 w_39 =>
  if y_38.1 = true then (some ((false, ()), w_39)) else (bnd (law11_EscrowDeals_s1 K p_1 r_7.1 r_10.1 r_12.1 r_18.1 r_23.1 r_28.1 w_39) fun y_49 w_50 =>
  if y_49.1 = true then (some ((false, ()), w_50)) else (bnd (book_SpoilTexts K r_23.1 w_50) fun r_51 w_52 =>
  bnd (book_SpoilBytes K r_10.1 w_52) fun r_53 w_54 =>
  bnd (book_SameTexts K r_28.1 r_18.1 w_54) fun r_55 w_56 =>
  some ((r_55.1, ()), w_56)))
theorem law11_EscrowDeals_s0_ok (K : Nat) : StmtNOk prog [(1, .addr), (7, .int .i64), (9, .int .i64), (11, .int .i64)] [(84, .bool)] [(60, 85)] (fun x w => law11_EscrowDeals_s0 K x.1 x.2.1 x.2.2.1 x.2.2.2.1 w) (cd (bodyOf f3) [1, 1, 1, 1, 1, 1, 1, 1, 0, 0]) :=
    mk_stmtN (O := tabL []) (root := (bodyOf f3)) (π := [1, 1, 1, 1, 1, 1, 1, 1, 0, 0]) (Li := [(1, .addr), (7, .int .i64), (9, .int .i64), (11, .int .i64)]) (Lo := [(84, .bool)]) (S := (fun x w => law11_EscrowDeals_s0 K x.1 x.2.1 x.2.2.1 x.2.2.2.1 w)) (law11_EscrowDeals_Eok K) (law11_EscrowDeals_Rok K) rfl (Orc.nil _ _ _) (by kernel_rfl) (fun _ _ => by kernel_rfl)
noncomputable def law11_EscrowDeals_s0_se (K : Nat) : SE := stmtN [(1, .addr), (7, .int .i64), (9, .int .i64), (11, .int .i64)] [(84, .bool)] [(60, 85)] (fun x w => law11_EscrowDeals_s0 K x.1 x.2.1 x.2.2.1 x.2.2.2.1 w)
theorem law11_EscrowDeals_s0_se_ok (K : Nat) (R : Rg) (h : subRB [(60, 85)] R = true) : (law11_EscrowDeals_s0_se K).Ok prog R (cd (bodyOf f3) [1, 1, 1, 1, 1, 1, 1, 1, 0, 0]) := stmtN_ok (Li := [(1, .addr), (7, .int .i64), (9, .int .i64), (11, .int .i64)]) (Lo := [(84, .bool)]) (S := (fun x w => law11_EscrowDeals_s0 K x.1 x.2.1 x.2.2.1 x.2.2.2.1 w)) (law11_EscrowDeals_s0_ok K) (subR_of h)
theorem law11_EscrowDeals_s1_ok (K : Nat) : StmtNOk prog [(1, .addr), (3, .sl), (4, .sl), (5, .sl), (6, .sl), (8, .sl), (10, .sl)] [(107, .bool)] [(85, 108)] (fun x w => law11_EscrowDeals_s1 K x.1 x.2.1 x.2.2.1 x.2.2.2.1 x.2.2.2.2.1 x.2.2.2.2.2.1 x.2.2.2.2.2.2.1 w) (cd (bodyOf f3) [1, 1, 1, 1, 1, 1, 1, 1, 1, 0, 0]) :=
    mk_stmtN (O := tabL []) (root := (bodyOf f3)) (π := [1, 1, 1, 1, 1, 1, 1, 1, 1, 0, 0]) (Li := [(1, .addr), (3, .sl), (4, .sl), (5, .sl), (6, .sl), (8, .sl), (10, .sl)]) (Lo := [(107, .bool)]) (S := (fun x w => law11_EscrowDeals_s1 K x.1 x.2.1 x.2.2.1 x.2.2.2.1 x.2.2.2.2.1 x.2.2.2.2.2.1 x.2.2.2.2.2.2.1 w)) (law11_EscrowDeals_Eok K) (law11_EscrowDeals_Rok K) rfl (Orc.nil _ _ _) (by kernel_rfl) (fun _ _ => by kernel_rfl)
noncomputable def law11_EscrowDeals_s1_se (K : Nat) : SE := stmtN [(1, .addr), (3, .sl), (4, .sl), (5, .sl), (6, .sl), (8, .sl), (10, .sl)] [(107, .bool)] [(85, 108)] (fun x w => law11_EscrowDeals_s1 K x.1 x.2.1 x.2.2.1 x.2.2.2.1 x.2.2.2.2.1 x.2.2.2.2.2.1 x.2.2.2.2.2.2.1 w)
theorem law11_EscrowDeals_s1_se_ok (K : Nat) (R : Rg) (h : subRB [(85, 108)] R = true) : (law11_EscrowDeals_s1_se K).Ok prog R (cd (bodyOf f3) [1, 1, 1, 1, 1, 1, 1, 1, 1, 0, 0]) := stmtN_ok (Li := [(1, .addr), (3, .sl), (4, .sl), (5, .sl), (6, .sl), (8, .sl), (10, .sl)]) (Lo := [(107, .bool)]) (S := (fun x w => law11_EscrowDeals_s1 K x.1 x.2.1 x.2.2.1 x.2.2.2.1 x.2.2.2.2.1 x.2.2.2.2.2.1 x.2.2.2.2.2.2.1 w)) (law11_EscrowDeals_s1_ok K) (subR_of h)
theorem law11_EscrowDeals_facts : FunFacts prog 3 f3 (bodyOf f3) [(0, .agg)] [(0, 115)] := ⟨func3, by kernel_rfl, by kernel_rfl, by kernel_rfl, by kernel_rfl, by kernel_rfl⟩
theorem law11_EscrowDeals_calls (K : Nat) (x : TT [(0, .agg)]) (w : World) (y : TR [.bool]) (w2 : World) (h : law11_EscrowDeals K x.1 w = some (y, w2)) : Calls prog 3 (encA [(0, .agg)] x).toArray w (fun e w3 => e = .returned (resV (encR [.bool] y)) ∧ w3 = w2) :=
    mk_fun (O := tabL [([1, 1, 1, 1, 1, 1, 1, 1, 0, 0], law11_EscrowDeals_s0_se K), ([1, 1, 1, 1, 1, 1, 1, 1, 1, 0, 0], law11_EscrowDeals_s1_se K)]) (Lp := [(0, .agg)]) (Rt := [.bool]) (S := (fun x w => law11_EscrowDeals K x.1 w)) (law11_EscrowDeals_Eok K) (law11_EscrowDeals_Rok K) rfl law11_EscrowDeals_facts (Orc.cons (by kernel_rfl) (law11_EscrowDeals_s0_se_ok K [(0, 115)] (by kernel_rfl)) (Orc.cons (by kernel_rfl) (law11_EscrowDeals_s1_se_ok K [(0, 115)] (by kernel_rfl)) (Orc.nil _ _ _))) (fun _ _ => by kernel_rfl) x w y w2 h
end Go.Sh

/- What functions of the program do, as Lean functions; that the machine does just that. Printed by shal.py, a program of this claim's writer. -/
set_option maxRecDepth 100000
set_option linter.unusedVariables false
namespace Go.Sh
open Go.Fw Go.Proofs.Tryd

end Go.Sh

/- What functions of the program do, as Lean functions; that the machine does just that. Printed by shal.py, a program of this claim's writer. -/
set_option maxRecDepth 100000
set_option linter.unusedVariables false
namespace Go.Sh
open Go.Fw Go.Proofs.Tryd

end Go.Sh

/- What functions of the program do, as Lean functions; that the machine does just that. Printed by shal.py, a program of this claim's writer. -/
set_option maxRecDepth 100000
set_option linter.unusedVariables false
namespace Go.Sh
open Go.Fw Go.Proofs.Tryd

end Go.Sh

/- What functions of the program do, as Lean functions; that the machine does just that. Printed by shal.py, a program of this claim's writer. -/
set_option maxRecDepth 100000
set_option linter.unusedVariables false
namespace Go.Sh
open Go.Fw Go.Proofs.Tryd

end Go.Sh

/- What functions of the program do, as Lean functions; that the machine does just that. Printed by shal.py, a program of this claim's writer. -/
set_option maxRecDepth 100000
set_option linter.unusedVariables false
namespace Go.Sh
open Go.Fw Go.Proofs.Tryd

end Go.Sh

/- What functions of the program do, as Lean functions; that the machine does just that. Printed by shal.py, a program of this claim's writer. -/
set_option maxRecDepth 100000
set_option linter.unusedVariables false
namespace Go.Sh
open Go.Fw Go.Proofs.Tryd

end Go.Sh

/- What functions of the program do, as Lean functions; that the machine does just that. Printed by shal.py, a program of this claim's writer. -/
set_option maxRecDepth 100000
set_option linter.unusedVariables false
namespace Go.Sh
open Go.Fw Go.Proofs.Tryd

end Go.Sh

/- What functions of the program do, as Lean functions; that the machine does just that. Printed by shal.py, a program of this claim's writer. -/
set_option maxRecDepth 100000
set_option linter.unusedVariables false
namespace Go.Sh
open Go.Fw Go.Proofs.Tryd

end Go.Sh
