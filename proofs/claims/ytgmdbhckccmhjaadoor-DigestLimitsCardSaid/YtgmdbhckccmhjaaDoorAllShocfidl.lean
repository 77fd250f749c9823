/- Texts of this claim, put together: Sh4, Sh5 -/
import Derived.Test.YtgmdbhckccmhjaaDoorAllShmbejel
/- What functions of the program do, as Lean functions; that the machine does just that. Printed by shal.py, a program of this claim's writer. -/
set_option maxRecDepth 100000
set_option linter.unusedVariables false
namespace Go.Sh
open Go.Fw Go.Proofs.Tryd

noncomputable def law01_DigestSums_E (K : Nat) : List (Nat × CE) := [(22, law01_joined_ce K), (23, law01_lent_ce K), (24, digest_Sum_ce K), (25, ref01_Sum_ce K), (27, book_SameBytes_ce K), (28, law01_whole_ce K), (29, book_SpoilBytes_ce K)]
theorem law01_DigestSums_Eok (K : Nat) : Env.Ok prog (tab (law01_DigestSums_E K)) := (Env.cons (law01_joined_ok K) (Env.cons (law01_lent_ok K) (Env.cons (digest_Sum_ok K) (Env.cons (ref01_Sum_ok K) (Env.cons (book_SameBytes_ok K) (Env.cons (law01_whole_ok K) (Env.cons (book_SpoilBytes_ok K) (Env.nil _))))))))
noncomputable def law01_DigestSums_R (K : Nat) : List (Nat × RE) := [(19, ref01_Size_re), (26, law01_num_re)]
theorem law01_DigestSums_Rok (K : Nat) : REnv.Ok prog (tab (law01_DigestSums_R K)) := (REnv.cons (ref01_Size_ok) (REnv.cons (law01_num_ok) (REnv.nil _)))
noncomputable def law01_DigestSums_s0 (K : Nat) (want14 : Int) (a49 : Bool) (w : World) : Option ((Int × Unit) × World) :=
  if a49 = true then (some ((10, ()), w)) else (some ((want14, ()), w))
noncomputable def law01_DigestSums_s1 (K : Nat) (parts1 : Sl) (l6 : Sl) (a7 : Sl) (e8 : Int) (g10 : Int) (b11 : Sl) (f12 : Int) (w13 : Sl) (want14 : Int) (w : World) : Option ((Bool × Unit) × World) :=
  (law01_num e8).bind fun r_23 =>
  if (r_23.1 != want14) = true then (some ((true, ()), w)) else ((law01_num f12).bind fun r_24 =>
  if (r_24.1 != want14) = true then (some ((true, ()), w)) else ((law01_num g10).bind fun r_25 =>
  if (r_25.1 != 0) = true then (some ((true, ()), w)) else (bnd (book_SameBytes K a7 w13 w) fun r_26 w_27 =>
  if (!r_26.1) = true then (some ((true, ()), w_27)) else (bnd (book_SameBytes K b11 w13 w_27) fun r_28 w_29 =>
  if (!r_28.1) = true then (some ((true, ()), w_29)) else (bnd (law01_whole K l6 parts1 w_29) fun r_30 w_31 =>
  some (((!r_30.1), ()), w_31))))))
noncomputable def law01_DigestSums_s2 (K : Nat) (c9 : Sl) (b11 : Sl) (w13 : Sl) (abc15 : Sl) (w : World) : Option ((Bool × Unit) × World) :=
  bnd (book_SameBytes K b11 w13 w) fun r_43 w_44 =>
  if (!r_43.1) = true then (some ((true, ()), w_44)) else (bnd (book_SameBytes K c9 abc15 w_44) fun r_45 w_46 =>
  some (((!r_45.1), ()), w_46))
/-- coffer/cofferlaw01.DigestSums -/
noncomputable def law01_DigestSums (K : Nat) (hash0 : Int) (parts1 : Sl) (w : World) : Option ((Bool × Unit) × World) :=
  bnd (law01_joined K parts1 w) fun r_1 w_2 =>
  if (decide (((r_1.1.len : Nat) : Int) > 65536)) = true then (some ((true, ()), w_2)) else (bnd (law01_lent K parts1 w_2) fun r_3 w_4 =>
  bnd (digest_Sum K hash0 r_3.1 w_4) fun r_5 w_6 =>
  bnd (bldS prog 25 3 #[(0, (.int .u8 97)), (1, (.int .u8 98)), (2, (.int .u8 99))] w_6) fun s_7 w_8 =>
  bnd (cnv prog 25 25 (.slice s_7.a s_7.len s_7.cap) w_8) fun c_9 w_10 =>
  (asS c_9).bind fun v_11 =>
  bnd (bldS prog 24 1 #[(0, (.slice v_11.a v_11.len v_11.cap))] w_10) fun s_12 w_13 =>
  bnd (digest_Sum K 256 s_12 w_13) fun r_14 w_15 =>
  bnd (digest_Sum K hash0 r_3.1 w_15) fun r_16 w_17 =>
  bnd (ref01_Sum K hash0 r_1.1 w_17) fun r_18 w_19 =>
  (ref01_Size hash0).bind fun r_20 =>
  bnd (law01_DigestSums_s0 K 0 (r_20.1 == 0) w_19) fun y_21 w_22 =>
  bnd (law01_DigestSums_s1 K parts1 r_3.1 r_5.1 r_5.2.1 r_14.2.1 r_16.1 r_16.2.1 r_18.1 y_21.1 w_22) fun y_32 w_33 =>
  if y_32.1 = true then (some ((false, ()), w_33)) else (bnd (bldS prog 25 3 #[(0, (.int .u8 97)), (1, (.int .u8 98)), (2, (.int .u8 99))] w_33) fun s_34 w_35 =>
  bnd (cnv prog 25 25 (.slice s_34.a s_34.len s_34.cap) w_35) fun c_36 w_37 =>
  (asS c_36).bind fun v_38 =>
  bnd (ref01_Sum K 256 v_38 w_37) fun r_39 w_40 =>
  bnd (book_SpoilBytes K r_5.1 w_40) fun r_41 w_42 =>
  bnd (law01_DigestSums_s2 K r_14.1 r_16.1 r_18.1 r_39.1 w_42) fun y_47 w_48 =>
  if y_47.1 = true then (some ((false, ()), w_48)) else (bnd (digest_Sum K hash0 r_3.1 w_48) fun r_49 w_50 =>
  (law01_num r_49.2.1).bind fun r_51 =>
  if (r_51.1 == y_21.1) = true then (bnd (book_SameBytes K r_49.1 r_18.1 w_50) fun r_52 w_53 =>
  some ((r_52.1, ()), w_53)) else (some ((false, ()), w_50)))))
theorem law01_DigestSums_s0_ok (K : Nat) : StmtNOk prog [(14, .int .i64), (49, .bool)] [(14, .int .i64)] [(14, 15)] (fun x w => law01_DigestSums_s0 K x.1 x.2.1 w) (cd (bodyOf f4) [1, 1, 1, 1, 1, 1, 1, 1, 1, 0, 1]) :=
    mk_stmtN (O := tabL []) (root := (bodyOf f4)) (π := [1, 1, 1, 1, 1, 1, 1, 1, 1, 0, 1]) (Li := [(14, .int .i64), (49, .bool)]) (Lo := [(14, .int .i64)]) (S := (fun x w => law01_DigestSums_s0 K x.1 x.2.1 w)) (law01_DigestSums_Eok K) (law01_DigestSums_Rok K) rfl (Orc.nil _ _ _) (by kernel_rfl) (fun _ _ => by kernel_rfl)
noncomputable def law01_DigestSums_s0_se (K : Nat) : SE := stmtN [(14, .int .i64), (49, .bool)] [(14, .int .i64)] [(14, 15)] (fun x w => law01_DigestSums_s0 K x.1 x.2.1 w)
theorem law01_DigestSums_s0_se_ok (K : Nat) (R : Rg) (h : subRB [(14, 15)] R = true) : (law01_DigestSums_s0_se K).Ok prog R (cd (bodyOf f4) [1, 1, 1, 1, 1, 1, 1, 1, 1, 0, 1]) := stmtN_ok (Li := [(14, .int .i64), (49, .bool)]) (Lo := [(14, .int .i64)]) (S := (fun x w => law01_DigestSums_s0 K x.1 x.2.1 w)) (law01_DigestSums_s0_ok K) (subR_of h)
theorem law01_DigestSums_s1_ok (K : Nat) : StmtNOk prog [(1, .sl), (6, .sl), (7, .sl), (8, .int .i64), (10, .int .i64), (11, .sl), (12, .int .i64), (13, .sl), (14, .int .i64)] [(82, .bool)] [(50, 83)] (fun x w => law01_DigestSums_s1 K x.1 x.2.1 x.2.2.1 x.2.2.2.1 x.2.2.2.2.1 x.2.2.2.2.2.1 x.2.2.2.2.2.2.1 x.2.2.2.2.2.2.2.1 x.2.2.2.2.2.2.2.2.1 w) (cd (bodyOf f4) [1, 1, 1, 1, 1, 1, 1, 1, 1, 1, 0, 0]) :=
    mk_stmtN (O := tabL []) (root := (bodyOf f4)) (π := [1, 1, 1, 1, 1, 1, 1, 1, 1, 1, 0, 0]) (Li := [(1, .sl), (6, .sl), (7, .sl), (8, .int .i64), (10, .int .i64), (11, .sl), (12, .int .i64), (13, .sl), (14, .int .i64)]) (Lo := [(82, .bool)]) (S := (fun x w => law01_DigestSums_s1 K x.1 x.2.1 x.2.2.1 x.2.2.2.1 x.2.2.2.2.1 x.2.2.2.2.2.1 x.2.2.2.2.2.2.1 x.2.2.2.2.2.2.2.1 x.2.2.2.2.2.2.2.2.1 w)) (law01_DigestSums_Eok K) (law01_DigestSums_Rok K) rfl (Orc.nil _ _ _) (by kernel_rfl) (fun _ _ => by kernel_rfl)
noncomputable def law01_DigestSums_s1_se (K : Nat) : SE := stmtN [(1, .sl), (6, .sl), (7, .sl), (8, .int .i64), (10, .int .i64), (11, .sl), (12, .int .i64), (13, .sl), (14, .int .i64)] [(82, .bool)] [(50, 83)] (fun x w => law01_DigestSums_s1 K x.1 x.2.1 x.2.2.1 x.2.2.2.1 x.2.2.2.2.1 x.2.2.2.2.2.1 x.2.2.2.2.2.2.1 x.2.2.2.2.2.2.2.1 x.2.2.2.2.2.2.2.2.1 w)
theorem law01_DigestSums_s1_se_ok (K : Nat) (R : Rg) (h : subRB [(50, 83)] R = true) : (law01_DigestSums_s1_se K).Ok prog R (cd (bodyOf f4) [1, 1, 1, 1, 1, 1, 1, 1, 1, 1, 0, 0]) := stmtN_ok (Li := [(1, .sl), (6, .sl), (7, .sl), (8, .int .i64), (10, .int .i64), (11, .sl), (12, .int .i64), (13, .sl), (14, .int .i64)]) (Lo := [(82, .bool)]) (S := (fun x w => law01_DigestSums_s1 K x.1 x.2.1 x.2.2.1 x.2.2.2.1 x.2.2.2.2.1 x.2.2.2.2.2.1 x.2.2.2.2.2.2.1 x.2.2.2.2.2.2.2.1 x.2.2.2.2.2.2.2.2.1 w)) (law01_DigestSums_s1_ok K) (subR_of h)
theorem law01_DigestSums_s2_ok (K : Nat) : StmtNOk prog [(9, .sl), (11, .sl), (13, .sl), (15, .sl)] [(97, .bool)] [(88, 98)] (fun x w => law01_DigestSums_s2 K x.1 x.2.1 x.2.2.1 x.2.2.2.1 w) (cd (bodyOf f4) [1, 1, 1, 1, 1, 1, 1, 1, 1, 1, 1, 1, 1, 0, 0]) :=
    mk_stmtN (O := tabL []) (root := (bodyOf f4)) (π := [1, 1, 1, 1, 1, 1, 1, 1, 1, 1, 1, 1, 1, 0, 0]) (Li := [(9, .sl), (11, .sl), (13, .sl), (15, .sl)]) (Lo := [(97, .bool)]) (S := (fun x w => law01_DigestSums_s2 K x.1 x.2.1 x.2.2.1 x.2.2.2.1 w)) (law01_DigestSums_Eok K) (law01_DigestSums_Rok K) rfl (Orc.nil _ _ _) (by kernel_rfl) (fun _ _ => by kernel_rfl)
noncomputable def law01_DigestSums_s2_se (K : Nat) : SE := stmtN [(9, .sl), (11, .sl), (13, .sl), (15, .sl)] [(97, .bool)] [(88, 98)] (fun x w => law01_DigestSums_s2 K x.1 x.2.1 x.2.2.1 x.2.2.2.1 w)
theorem law01_DigestSums_s2_se_ok (K : Nat) (R : Rg) (h : subRB [(88, 98)] R = true) : (law01_DigestSums_s2_se K).Ok prog R (cd (bodyOf f4) [1, 1, 1, 1, 1, 1, 1, 1, 1, 1, 1, 1, 1, 0, 0]) := stmtN_ok (Li := [(9, .sl), (11, .sl), (13, .sl), (15, .sl)]) (Lo := [(97, .bool)]) (S := (fun x w => law01_DigestSums_s2 K x.1 x.2.1 x.2.2.1 x.2.2.2.1 w)) (law01_DigestSums_s2_ok K) (subR_of h)
theorem law01_DigestSums_facts : FunFacts prog 4 f4 (bodyOf f4) [(0, .int .i64), (1, .sl)] [(0, 113)] := ⟨func4, by kernel_rfl, by kernel_rfl, by kernel_rfl, by kernel_rfl, by kernel_rfl⟩
theorem law01_DigestSums_calls (K : Nat) (x : TT [(0, .int .i64), (1, .sl)]) (w : World) (y : TR [.bool]) (w2 : World) (h : law01_DigestSums K x.1 x.2.1 w = some (y, w2)) : Calls prog 4 (encA [(0, .int .i64), (1, .sl)] x).toArray w (fun e w3 => e = .returned (resV (encR [.bool] y)) ∧ w3 = w2) :=
    mk_fun (O := tabL [([1, 1, 1, 1, 1, 1, 1, 1, 1, 0, 1], law01_DigestSums_s0_se K), ([1, 1, 1, 1, 1, 1, 1, 1, 1, 1, 0, 0], law01_DigestSums_s1_se K), ([1, 1, 1, 1, 1, 1, 1, 1, 1, 1, 1, 1, 1, 0, 0], law01_DigestSums_s2_se K)]) (Lp := [(0, .int .i64), (1, .sl)]) (Rt := [.bool]) (S := (fun x w => law01_DigestSums K x.1 x.2.1 w)) (law01_DigestSums_Eok K) (law01_DigestSums_Rok K) rfl law01_DigestSums_facts (Orc.cons (by kernel_rfl) (law01_DigestSums_s0_se_ok K [(0, 113)] (by kernel_rfl)) (Orc.cons (by kernel_rfl) (law01_DigestSums_s1_se_ok K [(0, 113)] (by kernel_rfl)) (Orc.cons (by kernel_rfl) (law01_DigestSums_s2_se_ok K [(0, 113)] (by kernel_rfl)) (Orc.nil _ _ _)))) (fun _ _ => by kernel_rfl) x w y w2 h
noncomputable def law01_DigestSums_ce (K : Nat) : CE := funE [(0, .int .i64), (1, .sl)] [.bool] (fun x w => law01_DigestSums K x.1 x.2.1 w)
theorem law01_DigestSums_ok (K : Nat) : (law01_DigestSums_ce K).Ok prog 4 := funE_ok (Rt := [.bool]) (S := (fun x w => law01_DigestSums K x.1 x.2.1 w)) law01_DigestSums_facts fun x w y w2 h => law01_DigestSums_calls K x w y w2 h

noncomputable def digest_key_E (K : Nat) : List (Nat × CE) := [(72, digest_begin_ce K), (74, digest_state_take_ce K), (75, digest_state_end_ce K)]
theorem digest_key_Eok (K : Nat) : Env.Ok prog (tab (digest_key_E K)) := (Env.cons (digest_begin_ok K) (Env.cons (digest_state_take_ok K) (Env.cons (digest_state_end_ok K) (Env.nil _))))
noncomputable def digest_key_R (K : Nat) : List (Nat × RE) := []
theorem digest_key_Rok (K : Nat) : REnv.Ok prog (tab (digest_key_R K)) := (REnv.nil _)
noncomputable def digest_key_s0 (K : Nat) (k1 : Sl) (s6 : Addr) (a26 : Bool) (w : World) : Option ((Sl × Unit) × World) :=
  if a26 = true then ((ldA 142 s6 w).bind fun v_12 =>
  bnd (newB z87 87 w) fun whole_13 w_14 =>
  if (v_12).size = 142 then ((stA whole_13 v_12 w_14).bind fun w_15 =>
  bnd (digest_state_take K (some whole_13) k1 w_15) fun r_16 w_17 =>
  (ldA 142 whole_13 w_17).bind fun v_18 =>
  bnd (digest_state_end K v_18 w_17) fun r_19 w_20 =>
  some ((r_19.1, ()), w_20)) else none) else (some ((k1, ()), w))
noncomputable def digest_key_l1_b (K : Nat) (rec : Addr → Addr → Addr → Addr → Addr → Int → World → Option ((Unit) × World)) (a4 : Addr) (s6 : Addr) (m9 : Addr) (in10 : Addr) (out11 : Addr) (a41 : Int) (w : World) : Option ((Unit) × World) :=
  if (decide (a41 < 128)) = true then (if (0 : Int) ≤ a41 ∧ a41 < ((128 : Nat) : Int) then ((ldI .u8 (in10.add ((Int.toNat a41) * 1)) w).bind fun v_37 =>
  if (0 : Int) ≤ a41 ∧ a41 < ((128 : Nat) : Int) then ((stC (in10.add ((Int.toNat a41) * 1)) (.int .u8 (bits .xor .u8 v_37 54)) w).bind fun w_38 =>
  if (0 : Int) ≤ a41 ∧ a41 < ((128 : Nat) : Int) then ((ldI .u8 (out11.add ((Int.toNat a41) * 1)) w_38).bind fun v_39 =>
  if (0 : Int) ≤ a41 ∧ a41 < ((128 : Nat) : Int) then ((stC (out11.add ((Int.toNat a41) * 1)) (.int .u8 (bits .xor .u8 v_39 92)) w_38).bind fun w_40 =>
  rec a4 s6 m9 in10 out11 (IntKind.i64.wrap (a41 + 1)) w_40) else none) else none) else none) else none) else (some ((), w))
noncomputable def digest_key_l1 (K : Nat) (n : Nat) : Addr → Addr → Addr → Addr → Addr → Int → World → Option ((Unit) × World) := iter (fun _ _ _ _ _ _ _ => none) (digest_key_l1_b K) n
/-- coffer/digest.key -/
noncomputable def digest_key (K : Nat) (hash0 : Int) (k1 : Sl) (w : World) : Option (((Array Value) × Bool × Unit) × World) :=
  bnd (newB z89 89 w) fun p_1 w_2 =>
  bnd (digest_begin K hash0 w_2) fun r_3 w_4 =>
  bnd (newB z87 87 w_4) fun s_5 w_6 =>
  if (r_3.1).size = 142 then ((stA s_5 r_3.1 w_6).bind fun w_7 =>
  if (!r_3.2.1) = true then ((prog.built 89 []).bind fun cs_8 =>
  if (cs_8).size = 284 then ((stA p_1 cs_8 w_7).bind fun w_9 =>
  (ldA 284 p_1 w_9).bind fun res_10 =>
  some ((res_10, false, ()), w_9)) else none) else ((ldI .i64 ((s_5.add 0).add 1) w_7).bind fun v_11 =>
  bnd (digest_key_s0 K k1 s_5 (decide (((k1.len : Nat) : Int) > v_11)) w_7) fun y_21 w_22 =>
  (ldA 142 s_5 w_22).bind fun v_23 =>
  (ldA 142 s_5 w_22).bind fun v_24 =>
  (prog.built 89 [(0, (.agg v_23)), (1, (.agg v_24))]).bind fun cs_25 =>
  bnd (newB z89 89 w_22) fun m_26 w_27 =>
  if (cs_25).size = 284 then ((stA m_26 cs_25 w_27).bind fun w_28 =>
  bnd (newB z85 85 w_28) fun in_29 w_30 =>
  bnd (newB z85 85 w_30) fun out_31 w_32 =>
  bnd (cpy prog 25 25 (.slice (sla (some in_29) 0 128 1) (128 - 0) (128 - 0)) (.slice y_21.1.a y_21.1.len y_21.1.cap) w_32) fun s_33 w_34 =>
  bnd (cpy prog 25 25 (.slice (sla (some out_31) 0 128 1) (128 - 0) (128 - 0)) (.slice y_21.1.a y_21.1.len y_21.1.cap) w_34) fun s_35 w_36 =>
  bnd (digest_key_l1 K K p_1 s_5 m_26 in_29 out_31 0 w_36) fun y_41 w_42 =>
  (ldI .i64 ((s_5.add 0).add 1) w_42).bind fun v_43 =>
  if (0 : Int) ≤ v_43 ∧ v_43 ≤ ((128 : Nat) : Int) then (bnd (digest_state_take K (some (m_26.add 0)) ⟨(sla (some in_29) 0 128 1), ((Int.toNat (v_43)) - 0), (128 - 0)⟩ w_42) fun r_44 w_45 =>
  (ldI .i64 ((s_5.add 0).add 1) w_45).bind fun v_46 =>
  if (0 : Int) ≤ v_46 ∧ v_46 ≤ ((128 : Nat) : Int) then (bnd (digest_state_take K (some (m_26.add 142)) ⟨(sla (some out_31) 0 128 1), ((Int.toNat (v_46)) - 0), (128 - 0)⟩ w_45) fun r_47 w_48 =>
  (ldA 284 m_26 w_48).bind fun v_49 =>
  if (v_49).size = 284 then ((stA p_1 v_49 w_48).bind fun w_50 =>
  (ldA 284 p_1 w_50).bind fun res_51 =>
  some ((res_51, true, ()), w_50)) else none) else none) else none) else none)) else none
theorem digest_key_s0_ok (K : Nat) : StmtNOk prog [(1, .sl), (6, .addr), (26, .bool)] [(1, .sl)] [(1, 2), (8, 9), (27, 32)] (fun x w => digest_key_s0 K x.1 x.2.1 x.2.2.1 w) (cd (bodyOf f66) [1, 1, 1, 0, 1]) :=
    mk_stmtN (O := tabL []) (root := (bodyOf f66)) (π := [1, 1, 1, 0, 1]) (Li := [(1, .sl), (6, .addr), (26, .bool)]) (Lo := [(1, .sl)]) (S := (fun x w => digest_key_s0 K x.1 x.2.1 x.2.2.1 w)) (digest_key_Eok K) (digest_key_Rok K) rfl (Orc.nil _ _ _) (by kernel_rfl) (fun _ _ => by kernel_rfl)
noncomputable def digest_key_s0_se (K : Nat) : SE := stmtN [(1, .sl), (6, .addr), (26, .bool)] [(1, .sl)] [(1, 2), (8, 9), (27, 32)] (fun x w => digest_key_s0 K x.1 x.2.1 x.2.2.1 w)
theorem digest_key_s0_se_ok (K : Nat) (R : Rg) (h : subRB [(1, 2), (8, 9), (27, 32)] R = true) : (digest_key_s0_se K).Ok prog R (cd (bodyOf f66) [1, 1, 1, 0, 1]) := stmtN_ok (Li := [(1, .sl), (6, .addr), (26, .bool)]) (Lo := [(1, .sl)]) (S := (fun x w => digest_key_s0 K x.1 x.2.1 x.2.2.1 w)) (digest_key_s0_ok K) (subR_of h)
theorem digest_key_l1_ok (K : Nat) (n : Nat) : StmtNOk prog [(4, .addr), (6, .addr), (9, .addr), (10, .addr), (11, .addr), (41, .int .i64)] [] [(12, 13), (41, 55)] ((fun n x w => digest_key_l1 K n x.1 x.2.1 x.2.2.1 x.2.2.2.1 x.2.2.2.2.1 x.2.2.2.2.2.1 w) n) (.block 0 (.loop (cd (bodyOf f66) [1, 1, 1, 1, 1, 1, 1, 1, 0, 1, 0, 0]))) :=
    mk_loopN (O := tabL []) (root := (bodyOf f66)) (π := [1, 1, 1, 1, 1, 1, 1, 1, 0, 1, 0, 0]) (id := 0) (Li := [(4, .addr), (6, .addr), (9, .addr), (10, .addr), (11, .addr), (41, .int .i64)]) (Lo := []) (S := (fun n x w => digest_key_l1 K n x.1 x.2.1 x.2.2.1 x.2.2.2.1 x.2.2.2.2.1 x.2.2.2.2.2.1 w)) (body := cd (bodyOf f66) [1, 1, 1, 1, 1, 1, 1, 1, 0, 1, 0, 0]) (digest_key_Eok K) (digest_key_Rok K) rfl (Orc.nil _ _ _) (by kernel_rfl) (fun _ _ => by kernel_rfl) (fun _ _ _ => by kernel_rfl) n
noncomputable def digest_key_l1_se (K : Nat) : SE := stmtN [(4, .addr), (6, .addr), (9, .addr), (10, .addr), (11, .addr), (41, .int .i64)] [] [(12, 13), (41, 55)] (fun x w => digest_key_l1 K K x.1 x.2.1 x.2.2.1 x.2.2.2.1 x.2.2.2.2.1 x.2.2.2.2.2.1 w)
theorem digest_key_l1_se_ok (K : Nat) (R : Rg) (h : subRB [(12, 13), (41, 55)] R = true) : (digest_key_l1_se K).Ok prog R (.block 0 (.loop (cd (bodyOf f66) [1, 1, 1, 1, 1, 1, 1, 1, 0, 1, 0, 0]))) := stmtN_ok (Li := [(4, .addr), (6, .addr), (9, .addr), (10, .addr), (11, .addr), (41, .int .i64)]) (Lo := []) (S := (fun x w => digest_key_l1 K K x.1 x.2.1 x.2.2.1 x.2.2.2.1 x.2.2.2.2.1 x.2.2.2.2.2.1 w)) (digest_key_l1_ok K K) (subR_of h)
theorem digest_key_facts : FunFacts prog 66 f66 (bodyOf f66) [(0, .int .i64), (1, .sl)] [(0, 68)] := ⟨func66, by kernel_rfl, by kernel_rfl, by kernel_rfl, by kernel_rfl, by kernel_rfl⟩
theorem digest_key_calls (K : Nat) (x : TT [(0, .int .i64), (1, .sl)]) (w : World) (y : TR [.agg, .bool]) (w2 : World) (h : digest_key K x.1 x.2.1 w = some (y, w2)) : Calls prog 66 (encA [(0, .int .i64), (1, .sl)] x).toArray w (fun e w3 => e = .returned (resV (encR [.agg, .bool] y)) ∧ w3 = w2) :=
    mk_fun (O := tabL [([1, 1, 1, 0, 1], digest_key_s0_se K), ([1, 1, 1, 1, 1, 1, 1, 1, 0, 1], digest_key_l1_se K)]) (Lp := [(0, .int .i64), (1, .sl)]) (Rt := [.agg, .bool]) (S := (fun x w => digest_key K x.1 x.2.1 w)) (digest_key_Eok K) (digest_key_Rok K) rfl digest_key_facts (Orc.cons (by kernel_rfl) (digest_key_s0_se_ok K [(0, 68)] (by kernel_rfl)) (Orc.cons (by kernel_rfl) (digest_key_l1_se_ok K [(0, 68)] (by kernel_rfl)) (Orc.nil _ _ _))) (fun _ _ => by kernel_rfl) x w y w2 h
noncomputable def digest_key_ce (K : Nat) : CE := funE [(0, .int .i64), (1, .sl)] [.agg, .bool] (fun x w => digest_key K x.1 x.2.1 w)
theorem digest_key_ok (K : Nat) : (digest_key_ce K).Ok prog 66 := funE_ok (Rt := [.agg, .bool]) (S := (fun x w => digest_key K x.1 x.2.1 w)) digest_key_facts fun x w y w2 h => digest_key_calls K x w y w2 h

noncomputable def digest_NewMac_E (K : Nat) : List (Nat × CE) := [(18, digest_Size_ce), (66, digest_key_ce K)]
theorem digest_NewMac_Eok (K : Nat) : Env.Ok prog (tab (digest_NewMac_E K)) := (Env.cons (digest_Size_ok) (Env.cons (digest_key_ok K) (Env.nil _)))
noncomputable def digest_NewMac_R (K : Nat) : List (Nat × RE) := []
theorem digest_NewMac_Rok (K : Nat) : REnv.Ok prog (tab (digest_NewMac_R K)) := (REnv.nil _)
/-- coffer/digest.NewMac -/
noncomputable def digest_NewMac (K : Nat) (hash0 : Int) (k1 : Sl) (w : World) : Option (((Option Addr) × Int × Unit) × World) :=
  bnd (digest_Size hash0 w) fun r_1 w_2 =>
  if (r_1.1 == 0) = true then (some ((none, 10, ()), w_2)) else (if (decide (((k1.len : Nat) : Int) > 33554432)) = true then (some ((none, 4, ()), w_2)) else (bnd (digest_key K hash0 k1 w_2) fun r_3 w_4 =>
  bnd (newB z89 89 w_4) fun m_5 w_6 =>
  if (r_3.1).size = 284 then ((stA m_5 r_3.1 w_6).bind fun w_7 =>
  (ldA 284 m_5 w_7).bind fun v_8 =>
  (ldA 284 m_5 w_7).bind fun v_9 =>
  (prog.built 101 [(0, (.agg v_8)), (1, (.agg v_9))]).bind fun cs_10 =>
  bnd (newB cs_10 101 w_7) fun p_11 w_12 =>
  some (((some p_11), 0, ()), w_12)) else none))
theorem digest_NewMac_facts : FunFacts prog 41 f41 (bodyOf f41) [(0, .int .i64), (1, .sl)] [(0, 24)] := ⟨func41, by kernel_rfl, by kernel_rfl, by kernel_rfl, by kernel_rfl, by kernel_rfl⟩
theorem digest_NewMac_calls (K : Nat) (x : TT [(0, .int .i64), (1, .sl)]) (w : World) (y : TR [.ptr, .int .i64]) (w2 : World) (h : digest_NewMac K x.1 x.2.1 w = some (y, w2)) : Calls prog 41 (encA [(0, .int .i64), (1, .sl)] x).toArray w (fun e w3 => e = .returned (resV (encR [.ptr, .int .i64] y)) ∧ w3 = w2) :=
    mk_fun (O := tabL []) (Lp := [(0, .int .i64), (1, .sl)]) (Rt := [.ptr, .int .i64]) (S := (fun x w => digest_NewMac K x.1 x.2.1 w)) (digest_NewMac_Eok K) (digest_NewMac_Rok K) rfl digest_NewMac_facts (Orc.nil _ _ _) (fun _ _ => by kernel_rfl) x w y w2 h
noncomputable def digest_NewMac_ce (K : Nat) : CE := funE [(0, .int .i64), (1, .sl)] [.ptr, .int .i64] (fun x w => digest_NewMac K x.1 x.2.1 w)
theorem digest_NewMac_ok (K : Nat) : (digest_NewMac_ce K).Ok prog 41 := funE_ok (Rt := [.ptr, .int .i64]) (S := (fun x w => digest_NewMac K x.1 x.2.1 w)) digest_NewMac_facts fun x w y w2 h => digest_NewMac_calls K x w y w2 h

noncomputable def digest_Mac_Write_E (K : Nat) : List (Nat × CE) := [(74, digest_state_take_ce K)]
theorem digest_Mac_Write_Eok (K : Nat) : Env.Ok prog (tab (digest_Mac_Write_E K)) := (Env.cons (digest_state_take_ok K) (Env.nil _))
noncomputable def digest_Mac_Write_R (K : Nat) : List (Nat × RE) := [(73, digest_total_re K)]
theorem digest_Mac_Write_Rok (K : Nat) : REnv.Ok prog (tab (digest_Mac_Write_R K)) := (REnv.cons (digest_total_ok K) (REnv.nil _))
noncomputable def digest_Mac_Write_l0_b (K : Nat) (rec : Option Addr → Sl → Int → Int → World → Option ((Unit) × World)) (m0 : Option Addr) (a29 : Sl) (a30 : Int) (a31 : Int) (w : World) : Option ((Unit) × World) :=
  if (decide (a31 < a30)) = true then ((a29.a).bind fun p_6 =>
  if (0 : Int) ≤ a31 ∧ a31 < ((a29.len : Nat) : Int) then ((ldS (p_6.add ((Int.toNat a31) * 1)) w).bind fun v_7 =>
  (m0).bind fun p_8 =>
  bnd (digest_state_take K (some ((p_8.add 0).add 0)) v_7 w) fun r_9 w_10 =>
  rec m0 a29 a30 (IntKind.i64.wrap (a31 + 1)) w_10) else none) else (some ((), w))
noncomputable def digest_Mac_Write_l0 (K : Nat) (n : Nat) : Option Addr → Sl → Int → Int → World → Option ((Unit) × World) := iter (fun _ _ _ _ _ => none) (digest_Mac_Write_l0_b K) n
/-- (*coffer/digest.Mac).Write -/
noncomputable def digest_Mac_Write (K : Nat) (m0 : Option Addr) (parts1 : Sl) (w : World) : Option ((Int × Unit) × World) :=
  if m0.isNone = true then (some ((1, ()), w)) else ((m0).bind fun p_1 =>
  (m0).bind fun p_2 =>
  (ldI .u64 (((p_1.add 0).add 0).add 5) w.drew).bind fun v_3 =>
  (ldI .i64 ((((p_2.add 0).add 0).add 0).add 1) w.drew).bind fun v_4 =>
  (digest_total K parts1 w.drew).bind fun r_5 =>
  if (decide ((IntKind.u64.wrap ((IntKind.u64.wrap (v_3 - (IntKind.u64.wrap v_4))) + (IntKind.u64.wrap r_5.1))) > 33554432)) = true then (some ((4, ()), w.drew)) else (bnd (digest_Mac_Write_l0 K K m0 parts1 ((parts1.len : Nat) : Int) 0 w.drew) fun y_11 w_12 =>
  some ((0, ()), w_12)))
theorem digest_Mac_Write_l0_ok (K : Nat) (n : Nat) : StmtNOk prog [(0, .ptr), (29, .sl), (30, .int .i64), (31, .int .i64)] [] [(6, 7), (31, 42)] ((fun n x w => digest_Mac_Write_l0 K n x.1 x.2.1 x.2.2.1 x.2.2.2.1 w) n) (.block 0 (.loop (cd (bodyOf f43) [1, 1, 1, 0, 1, 0, 0]))) :=
    mk_loopN (O := tabL []) (root := (bodyOf f43)) (π := [1, 1, 1, 0, 1, 0, 0]) (id := 0) (Li := [(0, .ptr), (29, .sl), (30, .int .i64), (31, .int .i64)]) (Lo := []) (S := (fun n x w => digest_Mac_Write_l0 K n x.1 x.2.1 x.2.2.1 x.2.2.2.1 w)) (body := cd (bodyOf f43) [1, 1, 1, 0, 1, 0, 0]) (digest_Mac_Write_Eok K) (digest_Mac_Write_Rok K) rfl (Orc.nil _ _ _) (by kernel_rfl) (fun _ _ => by kernel_rfl) (fun _ _ _ => by kernel_rfl) n
noncomputable def digest_Mac_Write_l0_se (K : Nat) : SE := stmtN [(0, .ptr), (29, .sl), (30, .int .i64), (31, .int .i64)] [] [(6, 7), (31, 42)] (fun x w => digest_Mac_Write_l0 K K x.1 x.2.1 x.2.2.1 x.2.2.2.1 w)
theorem digest_Mac_Write_l0_se_ok (K : Nat) (R : Rg) (h : subRB [(6, 7), (31, 42)] R = true) : (digest_Mac_Write_l0_se K).Ok prog R (.block 0 (.loop (cd (bodyOf f43) [1, 1, 1, 0, 1, 0, 0]))) := stmtN_ok (Li := [(0, .ptr), (29, .sl), (30, .int .i64), (31, .int .i64)]) (Lo := []) (S := (fun x w => digest_Mac_Write_l0 K K x.1 x.2.1 x.2.2.1 x.2.2.2.1 w)) (digest_Mac_Write_l0_ok K K) (subR_of h)
theorem digest_Mac_Write_facts : FunFacts prog 43 f43 (bodyOf f43) [(0, .ptr), (1, .sl)] [(0, 42)] := ⟨func43, by kernel_rfl, by kernel_rfl, by kernel_rfl, by kernel_rfl, by kernel_rfl⟩
theorem digest_Mac_Write_calls (K : Nat) (x : TT [(0, .ptr), (1, .sl)]) (w : World) (y : TR [.int .i64]) (w2 : World) (h : digest_Mac_Write K x.1 x.2.1 w = some (y, w2)) : Calls prog 43 (encA [(0, .ptr), (1, .sl)] x).toArray w (fun e w3 => e = .returned (resV (encR [.int .i64] y)) ∧ w3 = w2) :=
    mk_fun (O := tabL [([1, 1, 1, 0, 1], digest_Mac_Write_l0_se K)]) (Lp := [(0, .ptr), (1, .sl)]) (Rt := [.int .i64]) (S := (fun x w => digest_Mac_Write K x.1 x.2.1 w)) (digest_Mac_Write_Eok K) (digest_Mac_Write_Rok K) rfl digest_Mac_Write_facts (Orc.cons (by kernel_rfl) (digest_Mac_Write_l0_se_ok K [(0, 42)] (by kernel_rfl)) (Orc.nil _ _ _)) (fun _ _ => by kernel_rfl) x w y w2 h
noncomputable def digest_Mac_Write_ce (K : Nat) : CE := funE [(0, .ptr), (1, .sl)] [.int .i64] (fun x w => digest_Mac_Write K x.1 x.2.1 w)
theorem digest_Mac_Write_ok (K : Nat) : (digest_Mac_Write_ce K).Ok prog 43 := funE_ok (Rt := [.int .i64]) (S := (fun x w => digest_Mac_Write K x.1 x.2.1 w)) digest_Mac_Write_facts fun x w y w2 h => digest_Mac_Write_calls K x w y w2 h

noncomputable def digest_keyed_end_E (K : Nat) : List (Nat × CE) := [(75, digest_state_end_ce K), (74, digest_state_take_ce K)]
theorem digest_keyed_end_Eok (K : Nat) : Env.Ok prog (tab (digest_keyed_end_E K)) := (Env.cons (digest_state_end_ok K) (Env.cons (digest_state_take_ok K) (Env.nil _)))
noncomputable def digest_keyed_end_R (K : Nat) : List (Nat × RE) := []
theorem digest_keyed_end_Rok (K : Nat) : REnv.Ok prog (tab (digest_keyed_end_R K)) := (REnv.nil _)
/-- (coffer/digest.keyed).end -/
noncomputable def digest_keyed_end (K : Nat) (m0 : Array Value) (w : World) : Option ((Sl × Unit) × World) :=
  bnd (newB m0 89 w) fun p_1 w_2 =>
  (ldA 142 (p_1.add 0) w_2).bind fun v_3 =>
  bnd (digest_state_end K v_3 w_2) fun r_4 w_5 =>
  bnd (digest_state_take K (some (p_1.add 142)) r_4.1 w_5) fun r_6 w_7 =>
  (ldA 142 (p_1.add 142) w_7).bind fun v_8 =>
  bnd (digest_state_end K v_8 w_7) fun r_9 w_10 =>
  some ((r_9.1, ()), w_10)
theorem digest_keyed_end_facts : FunFacts prog 76 f76 (bodyOf f76) [(0, .agg)] [(0, 11)] := ⟨func76, by kernel_rfl, by kernel_rfl, by kernel_rfl, by kernel_rfl, by kernel_rfl⟩
theorem digest_keyed_end_calls (K : Nat) (x : TT [(0, .agg)]) (w : World) (y : TR [.sl]) (w2 : World) (h : digest_keyed_end K x.1 w = some (y, w2)) : Calls prog 76 (encA [(0, .agg)] x).toArray w (fun e w3 => e = .returned (resV (encR [.sl] y)) ∧ w3 = w2) :=
    mk_fun (O := tabL []) (Lp := [(0, .agg)]) (Rt := [.sl]) (S := (fun x w => digest_keyed_end K x.1 w)) (digest_keyed_end_Eok K) (digest_keyed_end_Rok K) rfl digest_keyed_end_facts (Orc.nil _ _ _) (fun _ _ => by kernel_rfl) x w y w2 h
noncomputable def digest_keyed_end_ce (K : Nat) : CE := funE [(0, .agg)] [.sl] (fun x w => digest_keyed_end K x.1 w)
theorem digest_keyed_end_ok (K : Nat) : (digest_keyed_end_ce K).Ok prog 76 := funE_ok (Rt := [.sl]) (S := (fun x w => digest_keyed_end K x.1 w)) digest_keyed_end_facts fun x w y w2 h => digest_keyed_end_calls K x w y w2 h

noncomputable def digest_Mac_Sum_E (K : Nat) : List (Nat × CE) := [(76, digest_keyed_end_ce K)]
theorem digest_Mac_Sum_Eok (K : Nat) : Env.Ok prog (tab (digest_Mac_Sum_E K)) := (Env.cons (digest_keyed_end_ok K) (Env.nil _))
noncomputable def digest_Mac_Sum_R (K : Nat) : List (Nat × RE) := []
theorem digest_Mac_Sum_Rok (K : Nat) : REnv.Ok prog (tab (digest_Mac_Sum_R K)) := (REnv.nil _)
/-- (*coffer/digest.Mac).Sum -/
noncomputable def digest_Mac_Sum (K : Nat) (m0 : Option Addr) (w : World) : Option ((Sl × Unit) × World) :=
  if m0.isNone = true then (some ((⟨none, 0, 0⟩, ()), w)) else ((m0).bind fun p_1 =>
  (ldA 284 (p_1.add 0) w).bind fun v_2 =>
  bnd (digest_keyed_end K v_2 w) fun r_3 w_4 =>
  some ((r_3.1, ()), w_4))
theorem digest_Mac_Sum_facts : FunFacts prog 45 f45 (bodyOf f45) [(0, .ptr)] [(0, 10)] := ⟨func45, by kernel_rfl, by kernel_rfl, by kernel_rfl, by kernel_rfl, by kernel_rfl⟩
theorem digest_Mac_Sum_calls (K : Nat) (x : TT [(0, .ptr)]) (w : World) (y : TR [.sl]) (w2 : World) (h : digest_Mac_Sum K x.1 w = some (y, w2)) : Calls prog 45 (encA [(0, .ptr)] x).toArray w (fun e w3 => e = .returned (resV (encR [.sl] y)) ∧ w3 = w2) :=
    mk_fun (O := tabL []) (Lp := [(0, .ptr)]) (Rt := [.sl]) (S := (fun x w => digest_Mac_Sum K x.1 w)) (digest_Mac_Sum_Eok K) (digest_Mac_Sum_Rok K) rfl digest_Mac_Sum_facts (Orc.nil _ _ _) (fun _ _ => by kernel_rfl) x w y w2 h
noncomputable def digest_Mac_Sum_ce (K : Nat) : CE := funE [(0, .ptr)] [.sl] (fun x w => digest_Mac_Sum K x.1 w)
theorem digest_Mac_Sum_ok (K : Nat) : (digest_Mac_Sum_ce K).Ok prog 45 := funE_ok (Rt := [.sl]) (S := (fun x w => digest_Mac_Sum K x.1 w)) digest_Mac_Sum_facts fun x w y w2 h => digest_Mac_Sum_calls K x w y w2 h

noncomputable def digest_Code_E (K : Nat) : List (Nat × CE) := [(41, digest_NewMac_ce K), (43, digest_Mac_Write_ce K), (45, digest_Mac_Sum_ce K)]
theorem digest_Code_Eok (K : Nat) : Env.Ok prog (tab (digest_Code_E K)) := (Env.cons (digest_NewMac_ok K) (Env.cons (digest_Mac_Write_ok K) (Env.cons (digest_Mac_Sum_ok K) (Env.nil _))))
noncomputable def digest_Code_R (K : Nat) : List (Nat × RE) := []
theorem digest_Code_Rok (K : Nat) : REnv.Ok prog (tab (digest_Code_R K)) := (REnv.nil _)
noncomputable def digest_Code_s0 (K : Nat) (parts2 : Sl) (m8 : Option Addr) (e9 : Int) (a17 : Bool) (w : World) : Option ((Int × Unit) × World) :=
  if a17 = true then (bnd (digest_Mac_Write K m8 parts2 w) fun r_3 w_4 =>
  some ((r_3.1, ()), w_4)) else (some ((e9, ()), w))
/-- coffer/digest.Code -/
noncomputable def digest_Code (K : Nat) (hash0 : Int) (k1 : Sl) (parts2 : Sl) (w : World) : Option ((Sl × Int × Unit) × World) :=
  bnd (digest_NewMac K hash0 k1 w) fun r_1 w_2 =>
  bnd (digest_Code_s0 K parts2 r_1.1 r_1.2.1 (r_1.2.1 == 0) w_2) fun y_5 w_6 =>
  if (y_5.1 != 0) = true then (some ((⟨none, 0, 0⟩, y_5.1, ()), w_6)) else (bnd (digest_Mac_Sum K r_1.1 w_6) fun r_7 w_8 =>
  some ((r_7.1, 0, ()), w_8))
theorem digest_Code_s0_ok (K : Nat) : StmtNOk prog [(2, .sl), (8, .ptr), (9, .int .i64), (17, .bool)] [(9, .int .i64)] [(9, 10), (18, 21)] (fun x w => digest_Code_s0 K x.1 x.2.1 x.2.2.1 x.2.2.2.1 w) (cd (bodyOf f31) [1, 1, 0, 1]) :=
    mk_stmtN (O := tabL []) (root := (bodyOf f31)) (π := [1, 1, 0, 1]) (Li := [(2, .sl), (8, .ptr), (9, .int .i64), (17, .bool)]) (Lo := [(9, .int .i64)]) (S := (fun x w => digest_Code_s0 K x.1 x.2.1 x.2.2.1 x.2.2.2.1 w)) (digest_Code_Eok K) (digest_Code_Rok K) rfl (Orc.nil _ _ _) (by kernel_rfl) (fun _ _ => by kernel_rfl)
noncomputable def digest_Code_s0_se (K : Nat) : SE := stmtN [(2, .sl), (8, .ptr), (9, .int .i64), (17, .bool)] [(9, .int .i64)] [(9, 10), (18, 21)] (fun x w => digest_Code_s0 K x.1 x.2.1 x.2.2.1 x.2.2.2.1 w)
theorem digest_Code_s0_se_ok (K : Nat) (R : Rg) (h : subRB [(9, 10), (18, 21)] R = true) : (digest_Code_s0_se K).Ok prog R (cd (bodyOf f31) [1, 1, 0, 1]) := stmtN_ok (Li := [(2, .sl), (8, .ptr), (9, .int .i64), (17, .bool)]) (Lo := [(9, .int .i64)]) (S := (fun x w => digest_Code_s0 K x.1 x.2.1 x.2.2.1 x.2.2.2.1 w)) (digest_Code_s0_ok K) (subR_of h)
theorem digest_Code_facts : FunFacts prog 31 f31 (bodyOf f31) [(0, .int .i64), (1, .sl), (2, .sl)] [(0, 26)] := ⟨func31, by kernel_rfl, by kernel_rfl, by kernel_rfl, by kernel_rfl, by kernel_rfl⟩
theorem digest_Code_calls (K : Nat) (x : TT [(0, .int .i64), (1, .sl), (2, .sl)]) (w : World) (y : TR [.sl, .int .i64]) (w2 : World) (h : digest_Code K x.1 x.2.1 x.2.2.1 w = some (y, w2)) : Calls prog 31 (encA [(0, .int .i64), (1, .sl), (2, .sl)] x).toArray w (fun e w3 => e = .returned (resV (encR [.sl, .int .i64] y)) ∧ w3 = w2) :=
    mk_fun (O := tabL [([1, 1, 0, 1], digest_Code_s0_se K)]) (Lp := [(0, .int .i64), (1, .sl), (2, .sl)]) (Rt := [.sl, .int .i64]) (S := (fun x w => digest_Code K x.1 x.2.1 x.2.2.1 w)) (digest_Code_Eok K) (digest_Code_Rok K) rfl digest_Code_facts (Orc.cons (by kernel_rfl) (digest_Code_s0_se_ok K [(0, 26)] (by kernel_rfl)) (Orc.nil _ _ _)) (fun _ _ => by kernel_rfl) x w y w2 h
noncomputable def digest_Code_ce (K : Nat) : CE := funE [(0, .int .i64), (1, .sl), (2, .sl)] [.sl, .int .i64] (fun x w => digest_Code K x.1 x.2.1 x.2.2.1 w)
theorem digest_Code_ok (K : Nat) : (digest_Code_ce K).Ok prog 31 := funE_ok (Rt := [.sl, .int .i64]) (S := (fun x w => digest_Code K x.1 x.2.1 x.2.2.1 w)) digest_Code_facts fun x w y w2 h => digest_Code_calls K x w y w2 h

noncomputable def ref01_Code_E (K : Nat) : List (Nat × CE) := [(25, ref01_Sum_ce K)]
theorem ref01_Code_Eok (K : Nat) : Env.Ok prog (tab (ref01_Code_E K)) := (Env.cons (ref01_Sum_ok K) (Env.nil _))
noncomputable def ref01_Code_R (K : Nat) : List (Nat × RE) := [(21, ref01_Block_re)]
theorem ref01_Code_Rok (K : Nat) : REnv.Ok prog (tab (ref01_Code_R K)) := (REnv.cons (ref01_Block_ok) (REnv.nil _))
noncomputable def ref01_Code_s0 (K : Nat) (hash0 : Int) (key1 : Sl) (k8 : Sl) (a22 : Bool) (w : World) : Option ((Sl × Unit) × World) :=
  if a22 = true then (bnd (ref01_Sum K hash0 key1 w) fun r_2 w_3 =>
  some ((r_2.1, ()), w_3)) else (some ((k8, ()), w))
noncomputable def ref01_Code_s2 (K : Nat) (k8 : Sl) (i11 : Int) (c12 : Int) (a34 : Bool) (w : World) : Option ((Int × Unit) × World) :=
  if a34 = true then ((k8.a).bind fun p_6 =>
  if (0 : Int) ≤ i11 ∧ i11 < ((k8.len : Nat) : Int) then ((ldI .u8 (p_6.add ((Int.toNat i11) * 1)) w).bind fun v_7 =>
  some ((v_7, ()), w)) else none) else (some ((c12, ()), w))
noncomputable def ref01_Code_l1_b (K : Nat) (rec : Int → Sl → Int → Sl → Sl → Sl → Int → World → Option ((Sl × Sl × Unit) × World)) (hash0 : Int) (b2 : Sl) (block7 : Int) (k8 : Sl) (in9 : Sl) (out10 : Sl) (i11 : Int) (w : World) : Option ((Sl × Sl × Unit) × World) :=
  if (decide (i11 < block7)) = true then (bnd (ref01_Code_s2 K k8 i11 0 (decide (i11 < ((k8.len : Nat) : Int))) w) fun y_8 w_9 =>
  bnd (bldS prog 25 1 #[(0, (.int .u8 (bits .xor .u8 y_8.1 54)))] w_9) fun s_10 w_11 =>
  bnd (apd prog 25 25 (.slice in9.a in9.len in9.cap) (.slice s_10.a s_10.len s_10.cap) w_11) fun s_12 w_13 =>
  bnd (bldS prog 25 1 #[(0, (.int .u8 (bits .xor .u8 y_8.1 92)))] w_13) fun s_14 w_15 =>
  bnd (apd prog 25 25 (.slice out10.a out10.len out10.cap) (.slice s_14.a s_14.len s_14.cap) w_15) fun s_16 w_17 =>
  rec hash0 b2 block7 k8 s_12 s_16 (IntKind.i64.wrap (i11 + 1)) w_17) else (some ((in9, out10, ()), w))
noncomputable def ref01_Code_l1 (K : Nat) (n : Nat) : Int → Sl → Int → Sl → Sl → Sl → Int → World → Option ((Sl × Sl × Unit) × World) := iter (fun _ _ _ _ _ _ _ _ => none) (ref01_Code_l1_b K) n
/-- coffer/cofferref01.Code -/
noncomputable def ref01_Code (K : Nat) (hash0 : Int) (key1 : Sl) (b2 : Sl) (w : World) : Option ((Sl × Unit) × World) :=
  (ref01_Block hash0).bind fun r_1 =>
  if (r_1.1 == 0) = true then (some ((⟨none, 0, 0⟩, ()), w)) else (bnd (ref01_Code_s0 K hash0 key1 key1 (decide (((key1.len : Nat) : Int) > r_1.1)) w) fun y_4 w_5 =>
  bnd (ref01_Code_l1 K K hash0 b2 r_1.1 y_4.1 ⟨none, 0, 0⟩ ⟨none, 0, 0⟩ 0 w_5) fun y_18 w_19 =>
  bnd (apd prog 25 25 (.slice y_18.1.a y_18.1.len y_18.1.cap) (.slice b2.a b2.len b2.cap) w_19) fun s_20 w_21 =>
  bnd (ref01_Sum K hash0 s_20 w_21) fun r_22 w_23 =>
  bnd (apd prog 25 25 (.slice y_18.2.1.a y_18.2.1.len y_18.2.1.cap) (.slice r_22.1.a r_22.1.len r_22.1.cap) w_23) fun s_24 w_25 =>
  bnd (ref01_Sum K hash0 s_24 w_25) fun r_26 w_27 =>
  some ((r_26.1, ()), w_27))
theorem ref01_Code_s0_ok (K : Nat) : StmtNOk prog [(0, .int .i64), (1, .sl), (8, .sl), (22, .bool)] [(8, .sl)] [(8, 9), (23, 26)] (fun x w => ref01_Code_s0 K x.1 x.2.1 x.2.2.1 x.2.2.2.1 w) (cd (bodyOf f32) [1, 1, 1, 1, 0, 1]) :=
    mk_stmtN (O := tabL []) (root := (bodyOf f32)) (π := [1, 1, 1, 1, 0, 1]) (Li := [(0, .int .i64), (1, .sl), (8, .sl), (22, .bool)]) (Lo := [(8, .sl)]) (S := (fun x w => ref01_Code_s0 K x.1 x.2.1 x.2.2.1 x.2.2.2.1 w)) (ref01_Code_Eok K) (ref01_Code_Rok K) rfl (Orc.nil _ _ _) (by kernel_rfl) (fun _ _ => by kernel_rfl)
noncomputable def ref01_Code_s0_se (K : Nat) : SE := stmtN [(0, .int .i64), (1, .sl), (8, .sl), (22, .bool)] [(8, .sl)] [(8, 9), (23, 26)] (fun x w => ref01_Code_s0 K x.1 x.2.1 x.2.2.1 x.2.2.2.1 w)
theorem ref01_Code_s0_se_ok (K : Nat) (R : Rg) (h : subRB [(8, 9), (23, 26)] R = true) : (ref01_Code_s0_se K).Ok prog R (cd (bodyOf f32) [1, 1, 1, 1, 0, 1]) := stmtN_ok (Li := [(0, .int .i64), (1, .sl), (8, .sl), (22, .bool)]) (Lo := [(8, .sl)]) (S := (fun x w => ref01_Code_s0 K x.1 x.2.1 x.2.2.1 x.2.2.2.1 w)) (ref01_Code_s0_ok K) (subR_of h)
theorem ref01_Code_s2_ok (K : Nat) : StmtNOk prog [(8, .sl), (11, .int .i64), (12, .int .u8), (34, .bool)] [(12, .int .u8)] [(12, 13), (35, 39)] (fun x w => ref01_Code_s2 K x.1 x.2.1 x.2.2.1 x.2.2.2.1 w) (cd (bodyOf f32) [1, 1, 1, 1, 1, 1, 1, 0, 1, 0, 0, 1, 0, 0, 1, 0, 1]) :=
    mk_stmtN (O := tabL []) (root := (bodyOf f32)) (π := [1, 1, 1, 1, 1, 1, 1, 0, 1, 0, 0, 1, 0, 0, 1, 0, 1]) (Li := [(8, .sl), (11, .int .i64), (12, .int .u8), (34, .bool)]) (Lo := [(12, .int .u8)]) (S := (fun x w => ref01_Code_s2 K x.1 x.2.1 x.2.2.1 x.2.2.2.1 w)) (ref01_Code_Eok K) (ref01_Code_Rok K) rfl (Orc.nil _ _ _) (by kernel_rfl) (fun _ _ => by kernel_rfl)
noncomputable def ref01_Code_s2_se (K : Nat) : SE := stmtN [(8, .sl), (11, .int .i64), (12, .int .u8), (34, .bool)] [(12, .int .u8)] [(12, 13), (35, 39)] (fun x w => ref01_Code_s2 K x.1 x.2.1 x.2.2.1 x.2.2.2.1 w)
theorem ref01_Code_s2_se_ok (K : Nat) (R : Rg) (h : subRB [(12, 13), (35, 39)] R = true) : (ref01_Code_s2_se K).Ok prog R (cd (bodyOf f32) [1, 1, 1, 1, 1, 1, 1, 0, 1, 0, 0, 1, 0, 0, 1, 0, 1]) := stmtN_ok (Li := [(8, .sl), (11, .int .i64), (12, .int .u8), (34, .bool)]) (Lo := [(12, .int .u8)]) (S := (fun x w => ref01_Code_s2 K x.1 x.2.1 x.2.2.1 x.2.2.2.1 w)) (ref01_Code_s2_ok K) (subR_of h)
theorem ref01_Code_l1_ok (K : Nat) (n : Nat) : StmtNOk prog [(0, .int .i64), (2, .sl), (7, .int .i64), (8, .sl), (9, .sl), (10, .sl), (11, .int .i64)] [(9, .sl), (10, .sl)] [(9, 13), (26, 49)] ((fun n x w => ref01_Code_l1 K n x.1 x.2.1 x.2.2.1 x.2.2.2.1 x.2.2.2.2.1 x.2.2.2.2.2.1 x.2.2.2.2.2.2.1 w) n) (.block 0 (.loop (cd (bodyOf f32) [1, 1, 1, 1, 1, 1, 1, 0, 1, 0, 0]))) :=
    mk_loopN (O := tabL [([1, 1, 1, 1, 1, 1, 1, 0, 1, 0, 0, 1, 0, 0, 1, 0, 1], ref01_Code_s2_se K)]) (root := (bodyOf f32)) (π := [1, 1, 1, 1, 1, 1, 1, 0, 1, 0, 0]) (id := 0) (Li := [(0, .int .i64), (2, .sl), (7, .int .i64), (8, .sl), (9, .sl), (10, .sl), (11, .int .i64)]) (Lo := [(9, .sl), (10, .sl)]) (S := (fun n x w => ref01_Code_l1 K n x.1 x.2.1 x.2.2.1 x.2.2.2.1 x.2.2.2.2.1 x.2.2.2.2.2.1 x.2.2.2.2.2.2.1 w)) (body := cd (bodyOf f32) [1, 1, 1, 1, 1, 1, 1, 0, 1, 0, 0]) (ref01_Code_Eok K) (ref01_Code_Rok K) rfl (Orc.cons (by kernel_rfl) (ref01_Code_s2_se_ok K [(9, 13), (26, 49)] (by kernel_rfl)) (Orc.nil _ _ _)) (by kernel_rfl) (fun _ _ => by kernel_rfl) (fun _ _ _ => by kernel_rfl) n
noncomputable def ref01_Code_l1_se (K : Nat) : SE := stmtN [(0, .int .i64), (2, .sl), (7, .int .i64), (8, .sl), (9, .sl), (10, .sl), (11, .int .i64)] [(9, .sl), (10, .sl)] [(9, 13), (26, 49)] (fun x w => ref01_Code_l1 K K x.1 x.2.1 x.2.2.1 x.2.2.2.1 x.2.2.2.2.1 x.2.2.2.2.2.1 x.2.2.2.2.2.2.1 w)
theorem ref01_Code_l1_se_ok (K : Nat) (R : Rg) (h : subRB [(9, 13), (26, 49)] R = true) : (ref01_Code_l1_se K).Ok prog R (.block 0 (.loop (cd (bodyOf f32) [1, 1, 1, 1, 1, 1, 1, 0, 1, 0, 0]))) := stmtN_ok (Li := [(0, .int .i64), (2, .sl), (7, .int .i64), (8, .sl), (9, .sl), (10, .sl), (11, .int .i64)]) (Lo := [(9, .sl), (10, .sl)]) (S := (fun x w => ref01_Code_l1 K K x.1 x.2.1 x.2.2.1 x.2.2.2.1 x.2.2.2.2.1 x.2.2.2.2.2.1 x.2.2.2.2.2.2.1 w)) (ref01_Code_l1_ok K K) (subR_of h)
theorem ref01_Code_facts : FunFacts prog 32 f32 (bodyOf f32) [(0, .int .i64), (1, .sl), (2, .sl)] [(0, 61)] := ⟨func32, by kernel_rfl, by kernel_rfl, by kernel_rfl, by kernel_rfl, by kernel_rfl⟩
theorem ref01_Code_calls (K : Nat) (x : TT [(0, .int .i64), (1, .sl), (2, .sl)]) (w : World) (y : TR [.sl]) (w2 : World) (h : ref01_Code K x.1 x.2.1 x.2.2.1 w = some (y, w2)) : Calls prog 32 (encA [(0, .int .i64), (1, .sl), (2, .sl)] x).toArray w (fun e w3 => e = .returned (resV (encR [.sl] y)) ∧ w3 = w2) :=
    mk_fun (O := tabL [([1, 1, 1, 1, 0, 1], ref01_Code_s0_se K), ([1, 1, 1, 1, 1, 1, 1, 0, 1], ref01_Code_l1_se K), ([1, 1, 1, 1, 1, 1, 1, 0, 1, 0, 0, 1, 0, 0, 1, 0, 1], ref01_Code_s2_se K)]) (Lp := [(0, .int .i64), (1, .sl), (2, .sl)]) (Rt := [.sl]) (S := (fun x w => ref01_Code K x.1 x.2.1 x.2.2.1 w)) (ref01_Code_Eok K) (ref01_Code_Rok K) rfl ref01_Code_facts (Orc.cons (by kernel_rfl) (ref01_Code_s0_se_ok K [(0, 61)] (by kernel_rfl)) (Orc.cons (by kernel_rfl) (ref01_Code_l1_se_ok K [(0, 61)] (by kernel_rfl)) (Orc.cons (by kernel_rfl) (ref01_Code_s2_se_ok K [(0, 61)] (by kernel_rfl)) (Orc.nil _ _ _)))) (fun _ _ => by kernel_rfl) x w y w2 h
noncomputable def ref01_Code_ce (K : Nat) : CE := funE [(0, .int .i64), (1, .sl), (2, .sl)] [.sl] (fun x w => ref01_Code K x.1 x.2.1 x.2.2.1 w)
theorem ref01_Code_ok (K : Nat) : (ref01_Code_ce K).Ok prog 32 := funE_ok (Rt := [.sl]) (S := (fun x w => ref01_Code K x.1 x.2.1 x.2.2.1 w)) ref01_Code_facts fun x w y w2 h => ref01_Code_calls K x w y w2 h

noncomputable def law01_DigestCodes_E (K : Nat) : List (Nat × CE) := [(22, law01_joined_ce K), (23, law01_lent_ce K), (30, book_Bytes_ce K), (31, digest_Code_ce K), (32, ref01_Code_ce K), (27, book_SameBytes_ce K), (28, law01_whole_ce K), (33, book_WholeBytes_ce K), (29, book_SpoilBytes_ce K)]
theorem law01_DigestCodes_Eok (K : Nat) : Env.Ok prog (tab (law01_DigestCodes_E K)) := (Env.cons (law01_joined_ok K) (Env.cons (law01_lent_ok K) (Env.cons (book_Bytes_ok K) (Env.cons (digest_Code_ok K) (Env.cons (ref01_Code_ok K) (Env.cons (book_SameBytes_ok K) (Env.cons (law01_whole_ok K) (Env.cons (book_WholeBytes_ok K) (Env.cons (book_SpoilBytes_ok K) (Env.nil _))))))))))
noncomputable def law01_DigestCodes_R (K : Nat) : List (Nat × RE) := [(19, ref01_Size_re), (26, law01_num_re)]
theorem law01_DigestCodes_Rok (K : Nat) : REnv.Ok prog (tab (law01_DigestCodes_R K)) := (REnv.cons (ref01_Size_ok) (REnv.cons (law01_num_ok) (REnv.nil _)))
noncomputable def law01_DigestCodes_s0 (K : Nat) (want18 : Int) (a63 : Bool) (w : World) : Option ((Int × Unit) × World) :=
  if a63 = true then (some ((10, ()), w)) else (some ((want18, ()), w))
noncomputable def law01_DigestCodes_s1 (K : Nat) (key1 : Sl) (parts2 : Sl) (l8 : Sl) (k9 : Sl) (a10 : Sl) (e11 : Int) (g13 : Int) (b14 : Sl) (f15 : Int) (w16 : Sl) (want18 : Int) (w : World) : Option ((Bool × Unit) × World) :=
  (law01_num e11).bind fun r_32 =>
  if (r_32.1 != want18) = true then (some ((true, ()), w)) else ((law01_num f15).bind fun r_33 =>
  if (r_33.1 != want18) = true then (some ((true, ()), w)) else ((law01_num g13).bind fun r_34 =>
  if (r_34.1 != 0) = true then (some ((true, ()), w)) else (bnd (book_SameBytes K a10 w16 w) fun r_35 w_36 =>
  if (!r_35.1) = true then (some ((true, ()), w_36)) else (bnd (book_SameBytes K b14 w16 w_36) fun r_37 w_38 =>
  if (!r_37.1) = true then (some ((true, ()), w_38)) else (bnd (law01_whole K l8 parts2 w_38) fun r_39 w_40 =>
  if (!r_39.1) = true then (some ((true, ()), w_40)) else (bnd (book_WholeBytes K k9 key1 w_40) fun r_41 w_42 =>
  some (((!r_41.1), ()), w_42)))))))
/-- coffer/cofferlaw01.DigestCodes -/
noncomputable def law01_DigestCodes (K : Nat) (hash0 : Int) (key1 : Sl) (parts2 : Sl) (w : World) : Option ((Bool × Unit) × World) :=
  bnd (law01_joined K parts2 w) fun r_1 w_2 =>
  if (decide ((IntKind.i64.wrap (((r_1.1.len : Nat) : Int) + ((key1.len : Nat) : Int))) > 65536)) = true then (some ((true, ()), w_2)) else (bnd (law01_lent K parts2 w_2) fun r_3 w_4 =>
  bnd (book_Bytes K key1 w_4) fun r_5 w_6 =>
  bnd (digest_Code K hash0 r_5.1 r_3.1 w_6) fun r_7 w_8 =>
  bnd (bldS prog 25 1 #[(0, (.int .u8 107))] w_8) fun s_9 w_10 =>
  bnd (cnv prog 25 25 (.slice s_9.a s_9.len s_9.cap) w_10) fun c_11 w_12 =>
  (asS c_11).bind fun v_13 =>
  bnd (bldS prog 24 1 #[(0, (.slice r_5.1.a r_5.1.len r_5.1.cap))] w_12) fun s_14 w_15 =>
  bnd (digest_Code K 512 v_13 s_14 w_15) fun r_16 w_17 =>
  bnd (digest_Code K hash0 r_5.1 r_3.1 w_17) fun r_18 w_19 =>
  bnd (ref01_Code K hash0 key1 r_1.1 w_19) fun r_20 w_21 =>
  bnd (bldS prog 25 1 #[(0, (.int .u8 107))] w_21) fun s_22 w_23 =>
  bnd (cnv prog 25 25 (.slice s_22.a s_22.len s_22.cap) w_23) fun c_24 w_25 =>
  (asS c_24).bind fun v_26 =>
  bnd (ref01_Code K 512 v_26 key1 w_25) fun r_27 w_28 =>
  (ref01_Size hash0).bind fun r_29 =>
  bnd (law01_DigestCodes_s0 K 0 (r_29.1 == 0) w_28) fun y_30 w_31 =>
  bnd (law01_DigestCodes_s1 K key1 parts2 r_3.1 r_5.1 r_7.1 r_7.2.1 r_16.2.1 r_18.1 r_18.2.1 r_20.1 y_30.1 w_31) fun y_43 w_44 =>
  if y_43.1 = true then (some ((false, ()), w_44)) else (bnd (book_SpoilBytes K r_7.1 w_44) fun r_45 w_46 =>
  bnd (book_SameBytes K r_18.1 r_20.1 w_46) fun r_47 w_48 =>
  if r_47.1 = true then (bnd (book_SameBytes K r_16.1 r_27.1 w_48) fun r_49 w_50 =>
  some ((r_49.1, ()), w_50)) else (some ((false, ()), w_48))))
theorem law01_DigestCodes_s0_ok (K : Nat) : StmtNOk prog [(18, .int .i64), (63, .bool)] [(18, .int .i64)] [(18, 19)] (fun x w => law01_DigestCodes_s0 K x.1 x.2.1 w) (cd (bodyOf f5) [1, 1, 1, 1, 1, 1, 1, 1, 1, 1, 1, 0, 1]) :=
    mk_stmtN (O := tabL []) (root := (bodyOf f5)) (π := [1, 1, 1, 1, 1, 1, 1, 1, 1, 1, 1, 0, 1]) (Li := [(18, .int .i64), (63, .bool)]) (Lo := [(18, .int .i64)]) (S := (fun x w => law01_DigestCodes_s0 K x.1 x.2.1 w)) (law01_DigestCodes_Eok K) (law01_DigestCodes_Rok K) rfl (Orc.nil _ _ _) (by kernel_rfl) (fun _ _ => by kernel_rfl)
noncomputable def law01_DigestCodes_s0_se (K : Nat) : SE := stmtN [(18, .int .i64), (63, .bool)] [(18, .int .i64)] [(18, 19)] (fun x w => law01_DigestCodes_s0 K x.1 x.2.1 w)
theorem law01_DigestCodes_s0_se_ok (K : Nat) (R : Rg) (h : subRB [(18, 19)] R = true) : (law01_DigestCodes_s0_se K).Ok prog R (cd (bodyOf f5) [1, 1, 1, 1, 1, 1, 1, 1, 1, 1, 1, 0, 1]) := stmtN_ok (Li := [(18, .int .i64), (63, .bool)]) (Lo := [(18, .int .i64)]) (S := (fun x w => law01_DigestCodes_s0 K x.1 x.2.1 w)) (law01_DigestCodes_s0_ok K) (subR_of h)
theorem law01_DigestCodes_s1_ok (K : Nat) : StmtNOk prog [(1, .sl), (2, .sl), (8, .sl), (9, .sl), (10, .sl), (11, .int .i64), (13, .int .i64), (14, .sl), (15, .int .i64), (16, .sl), (18, .int .i64)] [(102, .bool)] [(64, 103)] (fun x w => law01_DigestCodes_s1 K x.1 x.2.1 x.2.2.1 x.2.2.2.1 x.2.2.2.2.1 x.2.2.2.2.2.1 x.2.2.2.2.2.2.1 x.2.2.2.2.2.2.2.1 x.2.2.2.2.2.2.2.2.1 x.2.2.2.2.2.2.2.2.2.1 x.2.2.2.2.2.2.2.2.2.2.1 w) (cd (bodyOf f5) [1, 1, 1, 1, 1, 1, 1, 1, 1, 1, 1, 1, 0, 0]) :=
    mk_stmtN (O := tabL []) (root := (bodyOf f5)) (π := [1, 1, 1, 1, 1, 1, 1, 1, 1, 1, 1, 1, 0, 0]) (Li := [(1, .sl), (2, .sl), (8, .sl), (9, .sl), (10, .sl), (11, .int .i64), (13, .int .i64), (14, .sl), (15, .int .i64), (16, .sl), (18, .int .i64)]) (Lo := [(102, .bool)]) (S := (fun x w => law01_DigestCodes_s1 K x.1 x.2.1 x.2.2.1 x.2.2.2.1 x.2.2.2.2.1 x.2.2.2.2.2.1 x.2.2.2.2.2.2.1 x.2.2.2.2.2.2.2.1 x.2.2.2.2.2.2.2.2.1 x.2.2.2.2.2.2.2.2.2.1 x.2.2.2.2.2.2.2.2.2.2.1 w)) (law01_DigestCodes_Eok K) (law01_DigestCodes_Rok K) rfl (Orc.nil _ _ _) (by kernel_rfl) (fun _ _ => by kernel_rfl)
noncomputable def law01_DigestCodes_s1_se (K : Nat) : SE := stmtN [(1, .sl), (2, .sl), (8, .sl), (9, .sl), (10, .sl), (11, .int .i64), (13, .int .i64), (14, .sl), (15, .int .i64), (16, .sl), (18, .int .i64)] [(102, .bool)] [(64, 103)] (fun x w => law01_DigestCodes_s1 K x.1 x.2.1 x.2.2.1 x.2.2.2.1 x.2.2.2.2.1 x.2.2.2.2.2.1 x.2.2.2.2.2.2.1 x.2.2.2.2.2.2.2.1 x.2.2.2.2.2.2.2.2.1 x.2.2.2.2.2.2.2.2.2.1 x.2.2.2.2.2.2.2.2.2.2.1 w)
theorem law01_DigestCodes_s1_se_ok (K : Nat) (R : Rg) (h : subRB [(64, 103)] R = true) : (law01_DigestCodes_s1_se K).Ok prog R (cd (bodyOf f5) [1, 1, 1, 1, 1, 1, 1, 1, 1, 1, 1, 1, 0, 0]) := stmtN_ok (Li := [(1, .sl), (2, .sl), (8, .sl), (9, .sl), (10, .sl), (11, .int .i64), (13, .int .i64), (14, .sl), (15, .int .i64), (16, .sl), (18, .int .i64)]) (Lo := [(102, .bool)]) (S := (fun x w => law01_DigestCodes_s1 K x.1 x.2.1 x.2.2.1 x.2.2.2.1 x.2.2.2.2.1 x.2.2.2.2.2.1 x.2.2.2.2.2.2.1 x.2.2.2.2.2.2.2.1 x.2.2.2.2.2.2.2.2.1 x.2.2.2.2.2.2.2.2.2.1 x.2.2.2.2.2.2.2.2.2.2.1 w)) (law01_DigestCodes_s1_ok K) (subR_of h)
theorem law01_DigestCodes_facts : FunFacts prog 5 f5 (bodyOf f5) [(0, .int .i64), (1, .sl), (2, .sl)] [(0, 113)] := ⟨func5, by kernel_rfl, by kernel_rfl, by kernel_rfl, by kernel_rfl, by kernel_rfl⟩
theorem law01_DigestCodes_calls (K : Nat) (x : TT [(0, .int .i64), (1, .sl), (2, .sl)]) (w : World) (y : TR [.bool]) (w2 : World) (h : law01_DigestCodes K x.1 x.2.1 x.2.2.1 w = some (y, w2)) : Calls prog 5 (encA [(0, .int .i64), (1, .sl), (2, .sl)] x).toArray w (fun e w3 => e = .returned (resV (encR [.bool] y)) ∧ w3 = w2) :=
    mk_fun (O := tabL [([1, 1, 1, 1, 1, 1, 1, 1, 1, 1, 1, 0, 1], law01_DigestCodes_s0_se K), ([1, 1, 1, 1, 1, 1, 1, 1, 1, 1, 1, 1, 0, 0], law01_DigestCodes_s1_se K)]) (Lp := [(0, .int .i64), (1, .sl), (2, .sl)]) (Rt := [.bool]) (S := (fun x w => law01_DigestCodes K x.1 x.2.1 x.2.2.1 w)) (law01_DigestCodes_Eok K) (law01_DigestCodes_Rok K) rfl law01_DigestCodes_facts (Orc.cons (by kernel_rfl) (law01_DigestCodes_s0_se_ok K [(0, 113)] (by kernel_rfl)) (Orc.cons (by kernel_rfl) (law01_DigestCodes_s1_se_ok K [(0, 113)] (by kernel_rfl)) (Orc.nil _ _ _))) (fun _ _ => by kernel_rfl) x w y w2 h
noncomputable def law01_DigestCodes_ce (K : Nat) : CE := funE [(0, .int .i64), (1, .sl), (2, .sl)] [.bool] (fun x w => law01_DigestCodes K x.1 x.2.1 x.2.2.1 w)
theorem law01_DigestCodes_ok (K : Nat) : (law01_DigestCodes_ce K).Ok prog 5 := funE_ok (Rt := [.bool]) (S := (fun x w => law01_DigestCodes K x.1 x.2.1 x.2.2.1 w)) law01_DigestCodes_facts fun x w y w2 h => law01_DigestCodes_calls K x w y w2 h

noncomputable def ref01_StretchError_R : List (Nat × RE) := [(19, ref01_Size_re)]
theorem ref01_StretchError_Rok : REnv.Ok prog (tab (ref01_StretchError_R)) := (REnv.cons (ref01_Size_ok) (REnv.nil _))
noncomputable def ref01_StretchError_s0 (pass1 : Int) (salt2 : Int) : Option (Out (Bool × Unit) (Int × Unit)) :=
  if (decide (pass1 > 33554432)) = true then (some (.norm (true, ()))) else (some (.norm ((decide (salt2 > 33554428)), ())))
noncomputable def ref01_StretchError_s1 (turns3 : Int) : Option (Out (Bool × Unit) (Int × Unit)) :=
  if (decide (turns3 < 1)) = true then (some (.norm (true, ()))) else (some (.norm ((decide (turns3 > 1048576)), ())))
/-- coffer/cofferref01.StretchError -/
noncomputable def ref01_StretchError (hash0 : Int) (pass1 : Int) (salt2 : Int) (turns3 : Int) (n4 : Int) : Option (Int × Unit) :=
  (ref01_Size hash0).bind fun r_1 =>
  if (r_1.1 == 0) = true then (some (10, ())) else ((ref01_StretchError_s0 pass1 salt2).bind fun y_2 =>
  (match y_2 with
  | .norm z_3n => (if z_3n.1 = true then (some (4, ())) else ((ref01_StretchError_s1 turns3).bind fun y_4 =>
  (match y_4 with
  | .norm z_5n => (if z_5n.1 = true then (some (11, ())) else (if (decide (n4 < 1)) = true then (some (12, ())) else (if (decide (n4 > 65536)) = true then (some (12, ())) else (if r_1.1 ≠ 0 then (if (decide ((IntKind.i64.wrap (turns3 * (IntKind.i64.wrap (Int.tdiv (IntKind.i64.wrap ((IntKind.i64.wrap (n4 + r_1.1)) - 1)) r_1.1)))) > 2097152)) = true then (some (12, ())) else (some (0, ()))) else none))))
  | .ret z_5r => (some (z_5r.1, ())))))
  | .ret z_3r => (some (z_3r.1, ()))))
theorem ref01_StretchError_s0_ok : StmtQOk prog [(1, .int .i64), (2, .int .i64)] [(17, .bool)] [(10, .int .i64)] [(17, 24)] (fun x w => ref01_StretchError_s0 x.1 x.2.1) (cd (bodyOf f34) [1, 1, 0, 0, 1, 1, 0]) :=
    mk_stmtQ (O := tabL []) (root := (bodyOf f34)) (π := [1, 1, 0, 0, 1, 1, 0]) (Li := [(1, .int .i64), (2, .int .i64)]) (Lo := [(17, .bool)]) (Lr := [(10, .int .i64)]) (S := (fun x w => ref01_StretchError_s0 x.1 x.2.1)) (ref01_StretchError_Rok) (OrcQ.nil _ _ _) (by kernel_rfl) (fun _ _ => by kernel_rfl)
noncomputable def ref01_StretchError_s0_se : SQ := stmtQ [(1, .int .i64), (2, .int .i64)] [(17, .bool)] [(10, .int .i64)] [(17, 24)] (fun x w => ref01_StretchError_s0 x.1 x.2.1)
theorem ref01_StretchError_s0_se_ok (R : Rg) (h : subRB [(17, 24)] R = true) : (ref01_StretchError_s0_se).Ok prog R (cd (bodyOf f34) [1, 1, 0, 0, 1, 1, 0]) := stmtQ_ok (Li := [(1, .int .i64), (2, .int .i64)]) (Lo := [(17, .bool)]) (Lr := [(10, .int .i64)]) (S := (fun x w => ref01_StretchError_s0 x.1 x.2.1)) (ref01_StretchError_s0_ok) (subR_of h)
theorem ref01_StretchError_s1_ok : StmtQOk prog [(3, .int .i64)] [(24, .bool)] [(10, .int .i64)] [(24, 31)] (fun x w => ref01_StretchError_s1 x.1) (cd (bodyOf f34) [1, 1, 0, 0, 1, 1, 1, 1, 0]) :=
    mk_stmtQ (O := tabL []) (root := (bodyOf f34)) (π := [1, 1, 0, 0, 1, 1, 1, 1, 0]) (Li := [(3, .int .i64)]) (Lo := [(24, .bool)]) (Lr := [(10, .int .i64)]) (S := (fun x w => ref01_StretchError_s1 x.1)) (ref01_StretchError_Rok) (OrcQ.nil _ _ _) (by kernel_rfl) (fun _ _ => by kernel_rfl)
noncomputable def ref01_StretchError_s1_se : SQ := stmtQ [(3, .int .i64)] [(24, .bool)] [(10, .int .i64)] [(24, 31)] (fun x w => ref01_StretchError_s1 x.1)
theorem ref01_StretchError_s1_se_ok (R : Rg) (h : subRB [(24, 31)] R = true) : (ref01_StretchError_s1_se).Ok prog R (cd (bodyOf f34) [1, 1, 0, 0, 1, 1, 1, 1, 0]) := stmtQ_ok (Li := [(3, .int .i64)]) (Lo := [(24, .bool)]) (Lr := [(10, .int .i64)]) (S := (fun x w => ref01_StretchError_s1 x.1)) (ref01_StretchError_s1_ok) (subR_of h)
theorem ref01_StretchError_facts : FunFacts prog 34 f34 (bodyOf f34) [(0, .int .i64), (1, .int .i64), (2, .int .i64), (3, .int .i64), (4, .int .i64)] [(0, 49)] := ⟨func34, by kernel_rfl, by kernel_rfl, by kernel_rfl, by kernel_rfl, by kernel_rfl⟩
theorem ref01_StretchError_calls (x : TT [(0, .int .i64), (1, .int .i64), (2, .int .i64), (3, .int .i64), (4, .int .i64)]) (w : World) (y : TR [.int .i64]) (h : ref01_StretchError x.1 x.2.1 x.2.2.1 x.2.2.2.1 x.2.2.2.2.1 = some y) : Calls prog 34 (encA [(0, .int .i64), (1, .int .i64), (2, .int .i64), (3, .int .i64), (4, .int .i64)] x).toArray w (fun e w3 => e = .returned (resV (encR [.int .i64] y)) ∧ w3 = w) :=
    mk_funQ (O := tabL [([1, 1, 0, 0, 1, 1, 0], ref01_StretchError_s0_se), ([1, 1, 0, 0, 1, 1, 1, 1, 0], ref01_StretchError_s1_se)]) (Lp := [(0, .int .i64), (1, .int .i64), (2, .int .i64), (3, .int .i64), (4, .int .i64)]) (Rt := [.int .i64]) (S := (fun x w => ref01_StretchError x.1 x.2.1 x.2.2.1 x.2.2.2.1 x.2.2.2.2.1)) (ref01_StretchError_Rok) ref01_StretchError_facts (OrcQ.cons (by kernel_rfl) (ref01_StretchError_s0_se_ok [(0, 49)] (by kernel_rfl)) (OrcQ.cons (by kernel_rfl) (ref01_StretchError_s1_se_ok [(0, 49)] (by kernel_rfl)) (OrcQ.nil _ _ _))) (fun _ _ => by kernel_rfl) x w y h
noncomputable def ref01_StretchError_re : RE := funR [(0, .int .i64), (1, .int .i64), (2, .int .i64), (3, .int .i64), (4, .int .i64)] [.int .i64] (fun x w => ref01_StretchError x.1 x.2.1 x.2.2.1 x.2.2.2.1 x.2.2.2.2.1)
theorem ref01_StretchError_ok : (ref01_StretchError_re).Ok prog 34 := funR_ok (Rt := [.int .i64]) (S := (fun x w => ref01_StretchError x.1 x.2.1 x.2.2.1 x.2.2.2.1 x.2.2.2.2.1)) ref01_StretchError_facts fun x w y h => ref01_StretchError_calls x w y h

noncomputable def digest_keyed_code_E (K : Nat) : List (Nat × CE) := [(74, digest_state_take_ce K), (76, digest_keyed_end_ce K)]
theorem digest_keyed_code_Eok (K : Nat) : Env.Ok prog (tab (digest_keyed_code_E K)) := (Env.cons (digest_state_take_ok K) (Env.cons (digest_keyed_end_ok K) (Env.nil _)))
noncomputable def digest_keyed_code_R (K : Nat) : List (Nat × RE) := []
theorem digest_keyed_code_Rok (K : Nat) : REnv.Ok prog (tab (digest_keyed_code_R K)) := (REnv.nil _)
noncomputable def digest_keyed_code_l0_b (K : Nat) (rec : Addr → Sl → Int → Int → World → Option ((Unit) × World)) (m2 : Addr) (a7 : Sl) (a8 : Int) (a9 : Int) (w : World) : Option ((Unit) × World) :=
  if (decide (a9 < a8)) = true then ((a7.a).bind fun p_3 =>
  if (0 : Int) ≤ a9 ∧ a9 < ((a7.len : Nat) : Int) then ((ldS (p_3.add ((Int.toNat a9) * 1)) w).bind fun v_4 =>
  bnd (digest_state_take K (some (m2.add 0)) v_4 w) fun r_5 w_6 =>
  rec m2 a7 a8 (IntKind.i64.wrap (a9 + 1)) w_6) else none) else (some ((), w))
noncomputable def digest_keyed_code_l0 (K : Nat) (n : Nat) : Addr → Sl → Int → Int → World → Option ((Unit) × World) := iter (fun _ _ _ _ _ => none) (digest_keyed_code_l0_b K) n
/-- (coffer/digest.keyed).code -/
noncomputable def digest_keyed_code (K : Nat) (m0 : Array Value) (parts1 : Sl) (w : World) : Option ((Sl × Unit) × World) :=
  bnd (newB m0 89 w) fun p_1 w_2 =>
  bnd (digest_keyed_code_l0 K K p_1 parts1 ((parts1.len : Nat) : Int) 0 w_2) fun y_7 w_8 =>
  (ldA 284 p_1 w_8).bind fun v_9 =>
  bnd (digest_keyed_end K v_9 w_8) fun r_10 w_11 =>
  some ((r_10.1, ()), w_11)
theorem digest_keyed_code_l0_ok (K : Nat) (n : Nat) : StmtNOk prog [(2, .addr), (7, .sl), (8, .int .i64), (9, .int .i64)] [] [(6, 7), (9, 17)] ((fun n x w => digest_keyed_code_l0 K n x.1 x.2.1 x.2.2.1 x.2.2.2.1 w) n) (.block 0 (.loop (cd (bodyOf f67) [1, 0, 1, 0, 0]))) :=
    mk_loopN (O := tabL []) (root := (bodyOf f67)) (π := [1, 0, 1, 0, 0]) (id := 0) (Li := [(2, .addr), (7, .sl), (8, .int .i64), (9, .int .i64)]) (Lo := []) (S := (fun n x w => digest_keyed_code_l0 K n x.1 x.2.1 x.2.2.1 x.2.2.2.1 w)) (body := cd (bodyOf f67) [1, 0, 1, 0, 0]) (digest_keyed_code_Eok K) (digest_keyed_code_Rok K) rfl (Orc.nil _ _ _) (by kernel_rfl) (fun _ _ => by kernel_rfl) (fun _ _ _ => by kernel_rfl) n
noncomputable def digest_keyed_code_l0_se (K : Nat) : SE := stmtN [(2, .addr), (7, .sl), (8, .int .i64), (9, .int .i64)] [] [(6, 7), (9, 17)] (fun x w => digest_keyed_code_l0 K K x.1 x.2.1 x.2.2.1 x.2.2.2.1 w)
theorem digest_keyed_code_l0_se_ok (K : Nat) (R : Rg) (h : subRB [(6, 7), (9, 17)] R = true) : (digest_keyed_code_l0_se K).Ok prog R (.block 0 (.loop (cd (bodyOf f67) [1, 0, 1, 0, 0]))) := stmtN_ok (Li := [(2, .addr), (7, .sl), (8, .int .i64), (9, .int .i64)]) (Lo := []) (S := (fun x w => digest_keyed_code_l0 K K x.1 x.2.1 x.2.2.1 x.2.2.2.1 w)) (digest_keyed_code_l0_ok K K) (subR_of h)
theorem digest_keyed_code_facts : FunFacts prog 67 f67 (bodyOf f67) [(0, .agg), (1, .sl)] [(0, 19)] := ⟨func67, by kernel_rfl, by kernel_rfl, by kernel_rfl, by kernel_rfl, by kernel_rfl⟩
theorem digest_keyed_code_calls (K : Nat) (x : TT [(0, .agg), (1, .sl)]) (w : World) (y : TR [.sl]) (w2 : World) (h : digest_keyed_code K x.1 x.2.1 w = some (y, w2)) : Calls prog 67 (encA [(0, .agg), (1, .sl)] x).toArray w (fun e w3 => e = .returned (resV (encR [.sl] y)) ∧ w3 = w2) :=
    mk_fun (O := tabL [([1, 0, 1], digest_keyed_code_l0_se K)]) (Lp := [(0, .agg), (1, .sl)]) (Rt := [.sl]) (S := (fun x w => digest_keyed_code K x.1 x.2.1 w)) (digest_keyed_code_Eok K) (digest_keyed_code_Rok K) rfl digest_keyed_code_facts (Orc.cons (by kernel_rfl) (digest_keyed_code_l0_se_ok K [(0, 19)] (by kernel_rfl)) (Orc.nil _ _ _)) (fun _ _ => by kernel_rfl) x w y w2 h
noncomputable def digest_keyed_code_ce (K : Nat) : CE := funE [(0, .agg), (1, .sl)] [.sl] (fun x w => digest_keyed_code K x.1 x.2.1 w)
theorem digest_keyed_code_ok (K : Nat) : (digest_keyed_code_ce K).Ok prog 67 := funE_ok (Rt := [.sl]) (S := (fun x w => digest_keyed_code K x.1 x.2.1 w)) digest_keyed_code_facts fun x w y w2 h => digest_keyed_code_calls K x w y w2 h

end Go.Sh

/- What functions of the program do, as Lean functions; that the machine does just that. Printed by shal.py, a program of this claim's writer. -/
set_option maxRecDepth 100000
set_option linter.unusedVariables false
namespace Go.Sh
open Go.Fw Go.Proofs.Tryd

noncomputable def digest_keyed_again_E (K : Nat) : List (Nat × CE) := [(80, digest_narrow_ce K), (81, digest_wide_ce K)]
theorem digest_keyed_again_Eok (K : Nat) : Env.Ok prog (tab (digest_keyed_again_E K)) := (Env.cons (digest_narrow_ok K) (Env.cons (digest_wide_ok K) (Env.nil _)))
noncomputable def digest_keyed_again_R (K : Nat) : List (Nat × RE) := []
theorem digest_keyed_again_Rok (K : Nat) : REnv.Ok prog (tab (digest_keyed_again_R K)) := (REnv.nil _)
noncomputable def digest_keyed_again_l1_b (K : Nat) (rec : Sl → Addr → Addr → Int → Addr → Array Value → Int → Int → Int → World → Option ((Unit) × World)) (u1 : Sl) (s4 : Addr) (b5 : Addr) (n6 : Int) (h9 : Addr) (a56 : Array Value) (a57 : Int) (a84 : Int) (a85 : Int) (w : World) : Option ((Unit) × World) :=
  if (decide (a85 < a84)) = true then ((ldI .i64 ((s4.add 0).add 2) w.drew).bind fun v_26 =>
  if v_26 ≠ 0 then (if (0 : Int) ≤ (IntKind.i64.wrap (Int.tdiv a85 v_26)) ∧ (IntKind.i64.wrap (Int.tdiv a85 v_26)) < ((8 : Nat) : Int) then ((ldI .u64 (h9.add ((Int.toNat (IntKind.i64.wrap (Int.tdiv a85 v_26))) * 1)) w.drew).bind fun v_27 =>
  (ldI .i64 ((s4.add 0).add 2) w.drew).bind fun v_28 =>
  (ldI .i64 ((s4.add 0).add 2) w.drew).bind fun v_29 =>
  if v_29 ≠ 0 then (if (0 : Int) ≤ (IntKind.i64.wrap (8 * (IntKind.i64.wrap ((IntKind.i64.wrap (v_28 - 1)) - (Int.tmod a85 v_29))))) then (if (0 : Int) ≤ a85 ∧ a85 < ((128 : Nat) : Int) then ((stC (b5.add ((Int.toNat a85) * 1)) (.int .u8 (IntKind.u8.wrap (Int.fdiv v_27 (2 ^ (min (Int.toNat (IntKind.i64.wrap (8 * (IntKind.i64.wrap ((IntKind.i64.wrap (v_28 - 1)) - (Int.tmod a85 v_29)))))) IntKind.u64.bits))))) w.drew).bind fun w_30 =>
  rec u1 s4 b5 n6 h9 a56 a57 a84 (IntKind.i64.wrap (a85 + 1)) w_30) else none) else none) else none) else none) else none) else (some ((), w))
noncomputable def digest_keyed_again_l1 (K : Nat) (n : Nat) : Sl → Addr → Addr → Int → Addr → Array Value → Int → Int → Int → World → Option ((Unit) × World) := iter (fun _ _ _ _ _ _ _ _ _ _ => none) (digest_keyed_again_l1_b K) n
noncomputable def digest_keyed_again_l0_b (K : Nat) (rec : Sl → Addr → Addr → Int → Array Value → Int → World → Option ((Unit) × World)) (u1 : Sl) (s4 : Addr) (b5 : Addr) (n6 : Int) (a56 : Array Value) (a57 : Int) (w : World) : Option ((Unit) × World) :=
  if (decide (a57 < 2)) = true then (if (0 : Int) ≤ a57 ∧ a57 < ((2 : Nat) : Int) then (bnd (newB z80 80 w) fun h_17 w_18 =>
  if ((a56.extract ((Int.toNat a57) * 8) (((Int.toNat a57) * 8) + 8))).size = 8 then ((stA h_17 (a56.extract ((Int.toNat a57) * 8) (((Int.toNat a57) * 8) + 8)) w_18).bind fun w_19 =>
  (ldV ((s4.add 0).add 3) w_19.drew).bind fun v_20 =>
  (ldI .i64 ((s4.add 0).add 1) w_19.drew).bind fun v_21 =>
  if (0 : Int) ≤ v_21 ∧ v_21 ≤ ((128 : Nat) : Int) then (dyn (tab (digest_keyed_again_E K)) v_20 [(.pointer (some h_17)), (.slice (sla (some b5) 0 128 1) ((Int.toNat (v_21)) - 0) (128 - 0))] w_19.drew fun v_22 w_23 =>
  (ldI .i64 ((s4.add 0).add 2) w_23.drew).bind fun v_24 =>
  if v_24 ≠ 0 then ((ldI .i64 ((s4.add 0).add 2) w_23.drew).bind fun v_25 =>
  bnd (digest_keyed_again_l1 K K u1 s4 b5 n6 h_17 a56 a57 (IntKind.i64.wrap ((IntKind.i64.wrap (Int.tdiv n6 v_24)) * v_25)) 0 w_23.drew) fun y_31 w_32 =>
  rec u1 s4 b5 n6 a56 (IntKind.i64.wrap (a57 + 1)) w_32) else none) else none) else none) else none) else (some ((), w))
noncomputable def digest_keyed_again_l0 (K : Nat) (n : Nat) : Sl → Addr → Addr → Int → Array Value → Int → World → Option ((Unit) × World) := iter (fun _ _ _ _ _ _ _ => none) (digest_keyed_again_l0_b K) n
/-- (*coffer/digest.keyed).again -/
noncomputable def digest_keyed_again (K : Nat) (m0 : Option Addr) (u1 : Sl) (w : World) : Option ((Unit) × World) :=
  (m0).bind fun p_1 =>
  bnd (newB z85 85 w) fun b_2 w_3 =>
  bnd (cpy prog 25 25 (.slice (sla (some b_2) 0 128 1) (128 - 0) (128 - 0)) (.slice u1.a u1.len u1.cap) w_3) fun s_4 w_5 =>
  if (0 : Int) ≤ s_4 ∧ s_4 < ((128 : Nat) : Int) then ((stC (b_2.add ((Int.toNat s_4) * 1)) (.int .u8 128) w_5).bind fun w_6 =>
  (ldI .i64 (((p_1.add 0).add 0).add 1) w_6).bind fun v_7 =>
  (ldI .i64 (((p_1.add 0).add 0).add 1) w_6.drew).bind fun v_8 =>
  (ldI .i64 (((p_1.add 0).add 0).add 1) w_6.drew).bind fun v_9 =>
  if (0 : Int) ≤ (IntKind.i64.wrap (v_8 - 2)) ∧ (IntKind.i64.wrap (v_8 - 2)) < ((128 : Nat) : Int) then ((stC (b_2.add ((Int.toNat (IntKind.i64.wrap (v_8 - 2))) * 1)) (.int .u8 (IntKind.u8.wrap (Int.fdiv (IntKind.i64.wrap (8 * (IntKind.i64.wrap (v_7 + s_4)))) (2 ^ 8)))) w_6.drew).bind fun w_10 =>
  if (0 : Int) ≤ (IntKind.i64.wrap (v_9 - 1)) ∧ (IntKind.i64.wrap (v_9 - 1)) < ((128 : Nat) : Int) then ((stC (b_2.add ((Int.toNat (IntKind.i64.wrap (v_9 - 1))) * 1)) (.int .u8 (IntKind.u8.wrap (IntKind.i64.wrap (8 * (IntKind.i64.wrap (v_7 + s_4)))))) w_10).bind fun w_11 =>
  (m0).bind fun p_12 =>
  (m0).bind fun p_13 =>
  (ldA 8 ((p_12.add 0).add 6) w_11.drew).bind fun v_14 =>
  (ldA 8 ((p_13.add 142).add 6) w_11.drew).bind fun v_15 =>
  (prog.built 130 [(0, (.agg v_14)), (1, (.agg v_15))]).bind fun cs_16 =>
  bnd (digest_keyed_again_l0 K K u1 (p_1.add 0) b_2 s_4 cs_16 0 w_11.drew) fun y_33 w_34 =>
  if (0 : Int) ≤ s_4 ∧ s_4 ≤ ((128 : Nat) : Int) then (bnd (cpy prog 25 25 (.slice u1.a u1.len u1.cap) (.slice (sla (some b_2) 0 128 1) ((Int.toNat (s_4)) - 0) (128 - 0)) w_34) fun s_35 w_36 =>
  some ((), w_36)) else none) else none) else none) else none
theorem digest_keyed_again_l1_ok (K : Nat) (n : Nat) : StmtNOk prog [(1, .sl), (4, .addr), (5, .addr), (6, .int .i64), (9, .addr), (56, .agg), (57, .int .i64), (84, .int .i64), (85, .int .i64)] [] [(10, 11), (85, 117)] ((fun n x w => digest_keyed_again_l1 K n x.1 x.2.1 x.2.2.1 x.2.2.2.1 x.2.2.2.2.1 x.2.2.2.2.2.1 x.2.2.2.2.2.2.1 x.2.2.2.2.2.2.2.1 x.2.2.2.2.2.2.2.2.1 w) n) (.block 2 (.loop (cd (bodyOf f69) [1, 1, 1, 1, 1, 1, 0, 1, 0, 0, 1, 1, 0, 0, 1, 1, 1, 0, 0]))) :=
    mk_loopN (O := tabL []) (root := (bodyOf f69)) (π := [1, 1, 1, 1, 1, 1, 0, 1, 0, 0, 1, 1, 0, 0, 1, 1, 1, 0, 0]) (id := 2) (Li := [(1, .sl), (4, .addr), (5, .addr), (6, .int .i64), (9, .addr), (56, .agg), (57, .int .i64), (84, .int .i64), (85, .int .i64)]) (Lo := []) (S := (fun n x w => digest_keyed_again_l1 K n x.1 x.2.1 x.2.2.1 x.2.2.2.1 x.2.2.2.2.1 x.2.2.2.2.2.1 x.2.2.2.2.2.2.1 x.2.2.2.2.2.2.2.1 x.2.2.2.2.2.2.2.2.1 w)) (body := cd (bodyOf f69) [1, 1, 1, 1, 1, 1, 0, 1, 0, 0, 1, 1, 0, 0, 1, 1, 1, 0, 0]) (digest_keyed_again_Eok K) (digest_keyed_again_Rok K) rfl (Orc.nil _ _ _) (by kernel_rfl) (fun _ _ => by kernel_rfl) (fun _ _ _ => by kernel_rfl) n
noncomputable def digest_keyed_again_l1_se (K : Nat) : SE := stmtN [(1, .sl), (4, .addr), (5, .addr), (6, .int .i64), (9, .addr), (56, .agg), (57, .int .i64), (84, .int .i64), (85, .int .i64)] [] [(10, 11), (85, 117)] (fun x w => digest_keyed_again_l1 K K x.1 x.2.1 x.2.2.1 x.2.2.2.1 x.2.2.2.2.1 x.2.2.2.2.2.1 x.2.2.2.2.2.2.1 x.2.2.2.2.2.2.2.1 x.2.2.2.2.2.2.2.2.1 w)
theorem digest_keyed_again_l1_se_ok (K : Nat) (R : Rg) (h : subRB [(10, 11), (85, 117)] R = true) : (digest_keyed_again_l1_se K).Ok prog R (.block 2 (.loop (cd (bodyOf f69) [1, 1, 1, 1, 1, 1, 0, 1, 0, 0, 1, 1, 0, 0, 1, 1, 1, 0, 0]))) := stmtN_ok (Li := [(1, .sl), (4, .addr), (5, .addr), (6, .int .i64), (9, .addr), (56, .agg), (57, .int .i64), (84, .int .i64), (85, .int .i64)]) (Lo := []) (S := (fun x w => digest_keyed_again_l1 K K x.1 x.2.1 x.2.2.1 x.2.2.2.1 x.2.2.2.2.1 x.2.2.2.2.2.1 x.2.2.2.2.2.2.1 x.2.2.2.2.2.2.2.1 x.2.2.2.2.2.2.2.2.1 w)) (digest_keyed_again_l1_ok K K) (subR_of h)
theorem digest_keyed_again_l0_ok (K : Nat) (n : Nat) : StmtNOk prog [(1, .sl), (4, .addr), (5, .addr), (6, .int .i64), (56, .agg), (57, .int .i64)] [] [(9, 11), (57, 118)] ((fun n x w => digest_keyed_again_l0 K n x.1 x.2.1 x.2.2.1 x.2.2.2.1 x.2.2.2.2.1 x.2.2.2.2.2.1 w) n) (.block 0 (.loop (cd (bodyOf f69) [1, 1, 1, 1, 1, 1, 0, 1, 0, 0]))) :=
    mk_loopN (O := tabL [([1, 1, 1, 1, 1, 1, 0, 1, 0, 0, 1, 1, 0, 0, 1, 1, 1], digest_keyed_again_l1_se K)]) (root := (bodyOf f69)) (π := [1, 1, 1, 1, 1, 1, 0, 1, 0, 0]) (id := 0) (Li := [(1, .sl), (4, .addr), (5, .addr), (6, .int .i64), (56, .agg), (57, .int .i64)]) (Lo := []) (S := (fun n x w => digest_keyed_again_l0 K n x.1 x.2.1 x.2.2.1 x.2.2.2.1 x.2.2.2.2.1 x.2.2.2.2.2.1 w)) (body := cd (bodyOf f69) [1, 1, 1, 1, 1, 1, 0, 1, 0, 0]) (digest_keyed_again_Eok K) (digest_keyed_again_Rok K) rfl (Orc.cons (by kernel_rfl) (digest_keyed_again_l1_se_ok K [(9, 11), (57, 118)] (by kernel_rfl)) (Orc.nil _ _ _)) (by kernel_rfl) (fun _ _ => by kernel_rfl) (fun _ _ _ => by kernel_rfl) n
noncomputable def digest_keyed_again_l0_se (K : Nat) : SE := stmtN [(1, .sl), (4, .addr), (5, .addr), (6, .int .i64), (56, .agg), (57, .int .i64)] [] [(9, 11), (57, 118)] (fun x w => digest_keyed_again_l0 K K x.1 x.2.1 x.2.2.1 x.2.2.2.1 x.2.2.2.2.1 x.2.2.2.2.2.1 w)
theorem digest_keyed_again_l0_se_ok (K : Nat) (R : Rg) (h : subRB [(9, 11), (57, 118)] R = true) : (digest_keyed_again_l0_se K).Ok prog R (.block 0 (.loop (cd (bodyOf f69) [1, 1, 1, 1, 1, 1, 0, 1, 0, 0]))) := stmtN_ok (Li := [(1, .sl), (4, .addr), (5, .addr), (6, .int .i64), (56, .agg), (57, .int .i64)]) (Lo := []) (S := (fun x w => digest_keyed_again_l0 K K x.1 x.2.1 x.2.2.1 x.2.2.2.1 x.2.2.2.2.1 x.2.2.2.2.2.1 w)) (digest_keyed_again_l0_ok K K) (subR_of h)
theorem digest_keyed_again_facts : FunFacts prog 69 f69 (bodyOf f69) [(0, .ptr), (1, .sl)] [(0, 122)] := ⟨func69, by kernel_rfl, by kernel_rfl, by kernel_rfl, by kernel_rfl, by kernel_rfl⟩
theorem digest_keyed_again_calls (K : Nat) (x : TT [(0, .ptr), (1, .sl)]) (w : World) (y : TR []) (w2 : World) (h : digest_keyed_again K x.1 x.2.1 w = some (y, w2)) : Calls prog 69 (encA [(0, .ptr), (1, .sl)] x).toArray w (fun e w3 => e = .returned (resV (encR [] y)) ∧ w3 = w2) :=
    mk_fun (O := tabL [([1, 1, 1, 1, 1, 1, 0, 1], digest_keyed_again_l0_se K), ([1, 1, 1, 1, 1, 1, 0, 1, 0, 0, 1, 1, 0, 0, 1, 1, 1], digest_keyed_again_l1_se K)]) (Lp := [(0, .ptr), (1, .sl)]) (Rt := []) (S := (fun x w => digest_keyed_again K x.1 x.2.1 w)) (digest_keyed_again_Eok K) (digest_keyed_again_Rok K) rfl digest_keyed_again_facts (Orc.cons (by kernel_rfl) (digest_keyed_again_l0_se_ok K [(0, 122)] (by kernel_rfl)) (Orc.cons (by kernel_rfl) (digest_keyed_again_l1_se_ok K [(0, 122)] (by kernel_rfl)) (Orc.nil _ _ _))) (fun _ _ => by kernel_rfl) x w y w2 h
noncomputable def digest_keyed_again_ce (K : Nat) : CE := funE [(0, .ptr), (1, .sl)] [] (fun x w => digest_keyed_again K x.1 x.2.1 w)
theorem digest_keyed_again_ok (K : Nat) : (digest_keyed_again_ce K).Ok prog 69 := funE_ok (Rt := []) (S := (fun x w => digest_keyed_again K x.1 x.2.1 w)) digest_keyed_again_facts fun x w y w2 h => digest_keyed_again_calls K x w y w2 h

noncomputable def digest_Stretch_E (K : Nat) : List (Nat × CE) := [(18, digest_Size_ce), (66, digest_key_ce K), (68, digest_big_ce K), (67, digest_keyed_code_ce K), (69, digest_keyed_again_ce K)]
theorem digest_Stretch_Eok (K : Nat) : Env.Ok prog (tab (digest_Stretch_E K)) := (Env.cons (digest_Size_ok) (Env.cons (digest_key_ok K) (Env.cons (digest_big_ok K) (Env.cons (digest_keyed_code_ok K) (Env.cons (digest_keyed_again_ok K) (Env.nil _))))))
noncomputable def digest_Stretch_R (K : Nat) : List (Nat × RE) := []
theorem digest_Stretch_Rok (K : Nat) : REnv.Ok prog (tab (digest_Stretch_R K)) := (REnv.nil _)
noncomputable def digest_Stretch_s1 (K : Nat) (pass1 : Sl) (salt2 : Sl) (w : World) : Option ((Bool × Unit) × World) :=
  if (decide (((pass1.len : Nat) : Int) > 33554432)) = true then (some ((true, ()), w)) else (some (((decide (((salt2.len : Nat) : Int) > 33554428)), ()), w))
noncomputable def digest_Stretch_s2 (K : Nat) (turns3 : Int) (w : World) : Option ((Bool × Unit) × World) :=
  if (decide (turns3 < 1)) = true then (some ((true, ()), w)) else (some (((decide (turns3 > 1048576)), ()), w))
noncomputable def digest_Stretch_s0 (K : Nat) (pass1 : Sl) (salt2 : Sl) (turns3 : Int) (n4 : Int) (size12 : Int) (w : World) : Option ((Out (Unit) (Sl × Int × Unit)) × World) :=
  if (size12 == 0) = true then (some (.ret (⟨none, 0, 0⟩, 10, ()), w)) else (bnd (digest_Stretch_s1 K pass1 salt2 w) fun y_3 w_4 =>
  if y_3.1 = true then (some (.ret (⟨none, 0, 0⟩, 4, ()), w_4)) else (bnd (digest_Stretch_s2 K turns3 w_4) fun y_5 w_6 =>
  if y_5.1 = true then (some (.ret (⟨none, 0, 0⟩, 11, ()), w_6)) else (if (decide (n4 < 1)) = true then (some (.ret (⟨none, 0, 0⟩, 12, ()), w_6)) else (if (decide (n4 > 65536)) = true then (some (.ret (⟨none, 0, 0⟩, 12, ()), w_6)) else (if size12 ≠ 0 then (if (decide ((IntKind.i64.wrap (turns3 * (IntKind.i64.wrap (Int.tdiv (IntKind.i64.wrap ((IntKind.i64.wrap (n4 + size12)) - 1)) size12)))) > 2097152)) = true then (some (.ret (⟨none, 0, 0⟩, 12, ()), w_6)) else (some (.norm (), w_6))) else none)))))
noncomputable def digest_Stretch_s4 (K : Nat) (salt2 : Sl) (m13 : Addr) (i16 : Int) (w : World) : Option ((Sl × Unit) × World) :=
  (ldA 284 m13 w.drew).bind fun v_15 =>
  bnd (digest_big K ⟨none, 0, 0⟩ i16 4 w.drew) fun r_16 w_17 =>
  (ldA 284 m13 w_17).bind fun v_18 =>
  sameK (.agg v_15) (.agg v_18) (bnd (bldS prog 24 2 #[(0, (.slice salt2.a salt2.len salt2.cap)), (1, (.slice r_16.1.a r_16.1.len r_16.1.cap))] w_17) fun s_19 w_20 =>
  (ldA 284 m13 w_20).bind fun v_21 =>
  sameK (.agg v_15) (.agg v_21) (bnd (digest_keyed_code K v_15 s_19 w_20) fun r_22 w_23 =>
  (ldA 284 m13 w_23).bind fun v_24 =>
  sameK (.agg v_15) (.agg v_24) (some ((r_22.1, ()), w_23))))
noncomputable def digest_Stretch_l6_b (K : Nat) (rec : Sl → Int → Int → Addr → Sl → Int → Sl → Sl → Int → Int → Sl → Int → Int → World → Option ((Unit) × World)) (salt2 : Sl) (turns3 : Int) (n4 : Int) (m13 : Addr) (out15 : Sl) (i16 : Int) (u17 : Sl) (sum18 : Sl) (a81 : Int) (a82 : Int) (a86 : Sl) (a87 : Int) (a88 : Int) (w : World) : Option ((Unit) × World) :=
  if (decide (a88 < a87)) = true then ((a86.a).bind fun p_31 =>
  if (0 : Int) ≤ a88 ∧ a88 < ((a86.len : Nat) : Int) then ((ldI .u8 (p_31.add ((Int.toNat a88) * 1)) w).bind fun v_32 =>
  (sum18.a).bind fun p_33 =>
  if (0 : Int) ≤ a88 ∧ a88 < ((sum18.len : Nat) : Int) then ((ldI .u8 (p_33.add ((Int.toNat a88) * 1)) w).bind fun v_34 =>
  (sum18.a).bind fun p_35 =>
  if (0 : Int) ≤ a88 ∧ a88 < ((sum18.len : Nat) : Int) then ((stC (p_35.add ((Int.toNat a88) * 1)) (.int .u8 (bits .xor .u8 v_34 v_32)) w).bind fun w_36 =>
  rec salt2 turns3 n4 m13 out15 i16 u17 sum18 a81 a82 a86 a87 (IntKind.i64.wrap (a88 + 1)) w_36) else none) else none) else none) else (some ((), w))
noncomputable def digest_Stretch_l6 (K : Nat) (n : Nat) : Sl → Int → Int → Addr → Sl → Int → Sl → Sl → Int → Int → Sl → Int → Int → World → Option ((Unit) × World) := iter (fun _ _ _ _ _ _ _ _ _ _ _ _ _ _ => none) (digest_Stretch_l6_b K) n
noncomputable def digest_Stretch_l5_b (K : Nat) (rec : Sl → Int → Int → Addr → Sl → Int → Sl → Sl → Int → Int → World → Option ((Unit) × World)) (salt2 : Sl) (turns3 : Int) (n4 : Int) (m13 : Addr) (out15 : Sl) (i16 : Int) (u17 : Sl) (sum18 : Sl) (a81 : Int) (a82 : Int) (w : World) : Option ((Unit) × World) :=
  if (decide (a82 < a81)) = true then (bnd (digest_keyed_again K (some m13) u17 w) fun r_29 w_30 =>
  bnd (digest_Stretch_l6 K K salt2 turns3 n4 m13 out15 i16 u17 sum18 a81 a82 u17 ((u17.len : Nat) : Int) 0 w_30) fun y_37 w_38 =>
  rec salt2 turns3 n4 m13 out15 i16 u17 sum18 a81 (IntKind.i64.wrap (a82 + 1)) w_38) else (some ((), w))
noncomputable def digest_Stretch_l5 (K : Nat) (n : Nat) : Sl → Int → Int → Addr → Sl → Int → Sl → Sl → Int → Int → World → Option ((Unit) × World) := iter (fun _ _ _ _ _ _ _ _ _ _ _ => none) (digest_Stretch_l5_b K) n
noncomputable def digest_Stretch_l3_b (K : Nat) (rec : Sl → Int → Int → Addr → Sl → Int → World → Option ((Sl × Unit) × World)) (salt2 : Sl) (turns3 : Int) (n4 : Int) (m13 : Addr) (out15 : Sl) (i16 : Int) (w : World) : Option ((Sl × Unit) × World) :=
  if (decide (((out15.len : Nat) : Int) < n4)) = true then (bnd (digest_Stretch_s4 K salt2 m13 i16 w) fun y_25 w_26 =>
  bnd (apd prog 25 25 (.slice none 0 0) (.slice y_25.1.a y_25.1.len y_25.1.cap) w_26) fun s_27 w_28 =>
  bnd (digest_Stretch_l5 K K salt2 turns3 n4 m13 out15 i16 y_25.1 s_27 (IntKind.i64.wrap (turns3 - 1)) 0 w_28) fun y_39 w_40 =>
  bnd (apd prog 25 25 (.slice out15.a out15.len out15.cap) (.slice s_27.a s_27.len s_27.cap) w_40) fun s_41 w_42 =>
  rec salt2 turns3 n4 m13 s_41 (IntKind.u64.wrap (i16 + 1)) w_42) else (some ((out15, ()), w))
noncomputable def digest_Stretch_l3 (K : Nat) (n : Nat) : Sl → Int → Int → Addr → Sl → Int → World → Option ((Sl × Unit) × World) := iter (fun _ _ _ _ _ _ _ => none) (digest_Stretch_l3_b K) n
/-- coffer/digest.Stretch -/
noncomputable def digest_Stretch (K : Nat) (hash0 : Int) (pass1 : Sl) (salt2 : Sl) (turns3 : Int) (n4 : Int) (w : World) : Option ((Sl × Int × Unit) × World) :=
  bnd (digest_Size hash0 w) fun r_1 w_2 =>
  bnd (digest_Stretch_s0 K pass1 salt2 turns3 n4 r_1.1 w_2) fun y_7 w_8 =>
  (match y_7 with
  | .norm z_9n => (bnd (digest_key K hash0 pass1 w_8) fun r_10 w_11 =>
  bnd (newB z89 89 w_11) fun m_12 w_13 =>
  if (r_10.1).size = 284 then ((stA m_12 r_10.1 w_13).bind fun w_14 =>
  bnd (digest_Stretch_l3 K K salt2 turns3 n4 m_12 ⟨none, 0, 0⟩ 1 w_14) fun y_43 w_44 =>
  if (0 : Int) ≤ n4 ∧ n4 ≤ ((y_43.1.cap : Nat) : Int) then (if (0 : Int) ≤ n4 ∧ n4 ≤ (((Int.toNat (n4)) : Nat) : Int) then (some ((⟨(sla y_43.1.a 0 (Int.toNat (n4)) 1), ((Int.toNat (n4)) - 0), ((Int.toNat (n4)) - 0)⟩, 0, ()), w_44)) else none) else none) else none)
  | .ret z_9r => (some ((z_9r.1, z_9r.2.1, ()), w_8)))
theorem digest_Stretch_s1_ok (K : Nat) : StmtNOk prog [(1, .sl), (2, .sl)] [(26, .bool)] [(26, 35)] (fun x w => digest_Stretch_s1 K x.1 x.2.1 w) (cd (bodyOf f35) [1, 1, 0, 0, 1, 1, 0]) :=
    mk_stmtN (O := tabL []) (root := (bodyOf f35)) (π := [1, 1, 0, 0, 1, 1, 0]) (Li := [(1, .sl), (2, .sl)]) (Lo := [(26, .bool)]) (S := (fun x w => digest_Stretch_s1 K x.1 x.2.1 w)) (digest_Stretch_Eok K) (digest_Stretch_Rok K) rfl (Orc.nil _ _ _) (by kernel_rfl) (fun _ _ => by kernel_rfl)
noncomputable def digest_Stretch_s1_se (K : Nat) : SE := stmtN [(1, .sl), (2, .sl)] [(26, .bool)] [(26, 35)] (fun x w => digest_Stretch_s1 K x.1 x.2.1 w)
theorem digest_Stretch_s1_se_ok (K : Nat) (R : Rg) (h : subRB [(26, 35)] R = true) : (digest_Stretch_s1_se K).Ok prog R (cd (bodyOf f35) [1, 1, 0, 0, 1, 1, 0]) := stmtN_ok (Li := [(1, .sl), (2, .sl)]) (Lo := [(26, .bool)]) (S := (fun x w => digest_Stretch_s1 K x.1 x.2.1 w)) (digest_Stretch_s1_ok K) (subR_of h)
theorem digest_Stretch_s2_ok (K : Nat) : StmtNOk prog [(3, .int .i64)] [(35, .bool)] [(35, 42)] (fun x w => digest_Stretch_s2 K x.1 w) (cd (bodyOf f35) [1, 1, 0, 0, 1, 1, 1, 1, 0]) :=
    mk_stmtN (O := tabL []) (root := (bodyOf f35)) (π := [1, 1, 0, 0, 1, 1, 1, 1, 0]) (Li := [(3, .int .i64)]) (Lo := [(35, .bool)]) (S := (fun x w => digest_Stretch_s2 K x.1 w)) (digest_Stretch_Eok K) (digest_Stretch_Rok K) rfl (Orc.nil _ _ _) (by kernel_rfl) (fun _ _ => by kernel_rfl)
noncomputable def digest_Stretch_s2_se (K : Nat) : SE := stmtN [(3, .int .i64)] [(35, .bool)] [(35, 42)] (fun x w => digest_Stretch_s2 K x.1 w)
theorem digest_Stretch_s2_se_ok (K : Nat) (R : Rg) (h : subRB [(35, 42)] R = true) : (digest_Stretch_s2_se K).Ok prog R (cd (bodyOf f35) [1, 1, 0, 0, 1, 1, 1, 1, 0]) := stmtN_ok (Li := [(3, .int .i64)]) (Lo := [(35, .bool)]) (S := (fun x w => digest_Stretch_s2 K x.1 w)) (digest_Stretch_s2_ok K) (subR_of h)
theorem digest_Stretch_s0_ok (K : Nat) : StmtOk prog [(1, .sl), (2, .sl), (3, .int .i64), (4, .int .i64), (12, .int .i64)] [] [(10, .sl), (11, .int .i64)] [(10, 12), (23, 60)] (fun x w => digest_Stretch_s0 K x.1 x.2.1 x.2.2.1 x.2.2.2.1 x.2.2.2.2.1 w) (cd (bodyOf f35) [1, 1, 0]) :=
    mk_stmt (O := tabL [([1, 1, 0, 0, 1, 1, 0], digest_Stretch_s1_se K), ([1, 1, 0, 0, 1, 1, 1, 1, 0], digest_Stretch_s2_se K)]) (root := (bodyOf f35)) (π := [1, 1, 0]) (Li := [(1, .sl), (2, .sl), (3, .int .i64), (4, .int .i64), (12, .int .i64)]) (Lo := []) (Lr := [(10, .sl), (11, .int .i64)]) (S := (fun x w => digest_Stretch_s0 K x.1 x.2.1 x.2.2.1 x.2.2.2.1 x.2.2.2.2.1 w)) (digest_Stretch_Eok K) (digest_Stretch_Rok K) rfl (Orc.cons (by kernel_rfl) (digest_Stretch_s1_se_ok K [(10, 12), (23, 60)] (by kernel_rfl)) (Orc.cons (by kernel_rfl) (digest_Stretch_s2_se_ok K [(10, 12), (23, 60)] (by kernel_rfl)) (Orc.nil _ _ _))) (by kernel_rfl) (fun _ _ => by kernel_rfl)
noncomputable def digest_Stretch_s0_se (K : Nat) : SE := stmt [(1, .sl), (2, .sl), (3, .int .i64), (4, .int .i64), (12, .int .i64)] [] [(10, .sl), (11, .int .i64)] [(10, 12), (23, 60)] (fun x w => digest_Stretch_s0 K x.1 x.2.1 x.2.2.1 x.2.2.2.1 x.2.2.2.2.1 w)
theorem digest_Stretch_s0_se_ok (K : Nat) (R : Rg) (h : subRB [(10, 12), (23, 60)] R = true) : (digest_Stretch_s0_se K).Ok prog R (cd (bodyOf f35) [1, 1, 0]) := stmt_ok (Li := [(1, .sl), (2, .sl), (3, .int .i64), (4, .int .i64), (12, .int .i64)]) (Lo := []) (Lr := [(10, .sl), (11, .int .i64)]) (S := (fun x w => digest_Stretch_s0 K x.1 x.2.1 x.2.2.1 x.2.2.2.1 x.2.2.2.2.1 w)) (digest_Stretch_s0_ok K) (subR_of h)
theorem digest_Stretch_s4_ok (K : Nat) : StmtNOk prog [(2, .sl), (13, .addr), (16, .int .u64)] [(17, .sl)] [(17, 18), (72, 78)] (fun x w => digest_Stretch_s4 K x.1 x.2.1 x.2.2.1 w) (cd (bodyOf f35) [1, 1, 1, 1, 1, 0, 1, 0, 0, 1, 0, 0, 0]) :=
    mk_regionH (R := [(17, 18), (72, 78)]) (Li := [(2, .sl), (13, .addr), (16, .int .u64)]) (Lo := [(17, .sl)]) (S := (fun x w => digest_Stretch_s4 K x.1 x.2.1 x.2.2.1 w)) (digest_Stretch_Eok K) (digest_Stretch_Rok K) rfl (fun _ _ => by kernel_rfl)
noncomputable def digest_Stretch_s4_se (K : Nat) : SE := stmtN [(2, .sl), (13, .addr), (16, .int .u64)] [(17, .sl)] [(17, 18), (72, 78)] (fun x w => digest_Stretch_s4 K x.1 x.2.1 x.2.2.1 w)
theorem digest_Stretch_s4_se_ok (K : Nat) (R : Rg) (h : subRB [(17, 18), (72, 78)] R = true) : (digest_Stretch_s4_se K).Ok prog R (cd (bodyOf f35) [1, 1, 1, 1, 1, 0, 1, 0, 0, 1, 0, 0, 0]) := stmtN_ok (Li := [(2, .sl), (13, .addr), (16, .int .u64)]) (Lo := [(17, .sl)]) (S := (fun x w => digest_Stretch_s4 K x.1 x.2.1 x.2.2.1 w)) (digest_Stretch_s4_ok K) (subR_of h)
theorem digest_Stretch_l6_ok (K : Nat) (n : Nat) : StmtNOk prog [(2, .sl), (3, .int .i64), (4, .int .i64), (13, .addr), (15, .sl), (16, .int .u64), (17, .sl), (18, .sl), (81, .int .i64), (82, .int .i64), (86, .sl), (87, .int .i64), (88, .int .i64)] [] [(19, 21), (88, 101)] ((fun n x w => digest_Stretch_l6 K n x.1 x.2.1 x.2.2.1 x.2.2.2.1 x.2.2.2.2.1 x.2.2.2.2.2.1 x.2.2.2.2.2.2.1 x.2.2.2.2.2.2.2.1 x.2.2.2.2.2.2.2.2.1 x.2.2.2.2.2.2.2.2.2.1 x.2.2.2.2.2.2.2.2.2.2.1 x.2.2.2.2.2.2.2.2.2.2.2.1 x.2.2.2.2.2.2.2.2.2.2.2.2.1 w) n) (.block 5 (.loop (cd (bodyOf f35) [1, 1, 1, 1, 1, 0, 1, 0, 0, 1, 0, 0, 1, 1, 0, 1, 0, 0, 1, 1, 0, 0, 1, 1, 0, 0]))) :=
    mk_loopN (O := tabL []) (root := (bodyOf f35)) (π := [1, 1, 1, 1, 1, 0, 1, 0, 0, 1, 0, 0, 1, 1, 0, 1, 0, 0, 1, 1, 0, 0, 1, 1, 0, 0]) (id := 5) (Li := [(2, .sl), (3, .int .i64), (4, .int .i64), (13, .addr), (15, .sl), (16, .int .u64), (17, .sl), (18, .sl), (81, .int .i64), (82, .int .i64), (86, .sl), (87, .int .i64), (88, .int .i64)]) (Lo := []) (S := (fun n x w => digest_Stretch_l6 K n x.1 x.2.1 x.2.2.1 x.2.2.2.1 x.2.2.2.2.1 x.2.2.2.2.2.1 x.2.2.2.2.2.2.1 x.2.2.2.2.2.2.2.1 x.2.2.2.2.2.2.2.2.1 x.2.2.2.2.2.2.2.2.2.1 x.2.2.2.2.2.2.2.2.2.2.1 x.2.2.2.2.2.2.2.2.2.2.2.1 x.2.2.2.2.2.2.2.2.2.2.2.2.1 w)) (body := cd (bodyOf f35) [1, 1, 1, 1, 1, 0, 1, 0, 0, 1, 0, 0, 1, 1, 0, 1, 0, 0, 1, 1, 0, 0, 1, 1, 0, 0]) (digest_Stretch_Eok K) (digest_Stretch_Rok K) rfl (Orc.nil _ _ _) (by kernel_rfl) (fun _ _ => by kernel_rfl) (fun _ _ _ => by kernel_rfl) n
noncomputable def digest_Stretch_l6_se (K : Nat) : SE := stmtN [(2, .sl), (3, .int .i64), (4, .int .i64), (13, .addr), (15, .sl), (16, .int .u64), (17, .sl), (18, .sl), (81, .int .i64), (82, .int .i64), (86, .sl), (87, .int .i64), (88, .int .i64)] [] [(19, 21), (88, 101)] (fun x w => digest_Stretch_l6 K K x.1 x.2.1 x.2.2.1 x.2.2.2.1 x.2.2.2.2.1 x.2.2.2.2.2.1 x.2.2.2.2.2.2.1 x.2.2.2.2.2.2.2.1 x.2.2.2.2.2.2.2.2.1 x.2.2.2.2.2.2.2.2.2.1 x.2.2.2.2.2.2.2.2.2.2.1 x.2.2.2.2.2.2.2.2.2.2.2.1 x.2.2.2.2.2.2.2.2.2.2.2.2.1 w)
theorem digest_Stretch_l6_se_ok (K : Nat) (R : Rg) (h : subRB [(19, 21), (88, 101)] R = true) : (digest_Stretch_l6_se K).Ok prog R (.block 5 (.loop (cd (bodyOf f35) [1, 1, 1, 1, 1, 0, 1, 0, 0, 1, 0, 0, 1, 1, 0, 1, 0, 0, 1, 1, 0, 0, 1, 1, 0, 0]))) := stmtN_ok (Li := [(2, .sl), (3, .int .i64), (4, .int .i64), (13, .addr), (15, .sl), (16, .int .u64), (17, .sl), (18, .sl), (81, .int .i64), (82, .int .i64), (86, .sl), (87, .int .i64), (88, .int .i64)]) (Lo := []) (S := (fun x w => digest_Stretch_l6 K K x.1 x.2.1 x.2.2.1 x.2.2.2.1 x.2.2.2.2.1 x.2.2.2.2.2.1 x.2.2.2.2.2.2.1 x.2.2.2.2.2.2.2.1 x.2.2.2.2.2.2.2.2.1 x.2.2.2.2.2.2.2.2.2.1 x.2.2.2.2.2.2.2.2.2.2.1 x.2.2.2.2.2.2.2.2.2.2.2.1 x.2.2.2.2.2.2.2.2.2.2.2.2.1 w)) (digest_Stretch_l6_ok K K) (subR_of h)
theorem digest_Stretch_l5_ok (K : Nat) (n : Nat) : StmtNOk prog [(2, .sl), (3, .int .i64), (4, .int .i64), (13, .addr), (15, .sl), (16, .int .u64), (17, .sl), (18, .sl), (81, .int .i64), (82, .int .i64)] [] [(19, 21), (82, 102)] ((fun n x w => digest_Stretch_l5 K n x.1 x.2.1 x.2.2.1 x.2.2.2.1 x.2.2.2.2.1 x.2.2.2.2.2.1 x.2.2.2.2.2.2.1 x.2.2.2.2.2.2.2.1 x.2.2.2.2.2.2.2.2.1 x.2.2.2.2.2.2.2.2.2.1 w) n) (.block 3 (.loop (cd (bodyOf f35) [1, 1, 1, 1, 1, 0, 1, 0, 0, 1, 0, 0, 1, 1, 0, 1, 0, 0]))) :=
    mk_loopN (O := tabL [([1, 1, 1, 1, 1, 0, 1, 0, 0, 1, 0, 0, 1, 1, 0, 1, 0, 0, 1, 1, 0, 0, 1, 1], digest_Stretch_l6_se K)]) (root := (bodyOf f35)) (π := [1, 1, 1, 1, 1, 0, 1, 0, 0, 1, 0, 0, 1, 1, 0, 1, 0, 0]) (id := 3) (Li := [(2, .sl), (3, .int .i64), (4, .int .i64), (13, .addr), (15, .sl), (16, .int .u64), (17, .sl), (18, .sl), (81, .int .i64), (82, .int .i64)]) (Lo := []) (S := (fun n x w => digest_Stretch_l5 K n x.1 x.2.1 x.2.2.1 x.2.2.2.1 x.2.2.2.2.1 x.2.2.2.2.2.1 x.2.2.2.2.2.2.1 x.2.2.2.2.2.2.2.1 x.2.2.2.2.2.2.2.2.1 x.2.2.2.2.2.2.2.2.2.1 w)) (body := cd (bodyOf f35) [1, 1, 1, 1, 1, 0, 1, 0, 0, 1, 0, 0, 1, 1, 0, 1, 0, 0]) (digest_Stretch_Eok K) (digest_Stretch_Rok K) rfl (Orc.cons (by kernel_rfl) (digest_Stretch_l6_se_ok K [(19, 21), (82, 102)] (by kernel_rfl)) (Orc.nil _ _ _)) (by kernel_rfl) (fun _ _ => by kernel_rfl) (fun _ _ _ => by kernel_rfl) n
noncomputable def digest_Stretch_l5_se (K : Nat) : SE := stmtN [(2, .sl), (3, .int .i64), (4, .int .i64), (13, .addr), (15, .sl), (16, .int .u64), (17, .sl), (18, .sl), (81, .int .i64), (82, .int .i64)] [] [(19, 21), (82, 102)] (fun x w => digest_Stretch_l5 K K x.1 x.2.1 x.2.2.1 x.2.2.2.1 x.2.2.2.2.1 x.2.2.2.2.2.1 x.2.2.2.2.2.2.1 x.2.2.2.2.2.2.2.1 x.2.2.2.2.2.2.2.2.1 x.2.2.2.2.2.2.2.2.2.1 w)
theorem digest_Stretch_l5_se_ok (K : Nat) (R : Rg) (h : subRB [(19, 21), (82, 102)] R = true) : (digest_Stretch_l5_se K).Ok prog R (.block 3 (.loop (cd (bodyOf f35) [1, 1, 1, 1, 1, 0, 1, 0, 0, 1, 0, 0, 1, 1, 0, 1, 0, 0]))) := stmtN_ok (Li := [(2, .sl), (3, .int .i64), (4, .int .i64), (13, .addr), (15, .sl), (16, .int .u64), (17, .sl), (18, .sl), (81, .int .i64), (82, .int .i64)]) (Lo := []) (S := (fun x w => digest_Stretch_l5 K K x.1 x.2.1 x.2.2.1 x.2.2.2.1 x.2.2.2.2.1 x.2.2.2.2.2.1 x.2.2.2.2.2.2.1 x.2.2.2.2.2.2.2.1 x.2.2.2.2.2.2.2.2.1 x.2.2.2.2.2.2.2.2.2.1 w)) (digest_Stretch_l5_ok K K) (subR_of h)
theorem digest_Stretch_l3_ok (K : Nat) (n : Nat) : StmtNOk prog [(2, .sl), (3, .int .i64), (4, .int .i64), (13, .addr), (15, .sl), (16, .int .u64)] [(15, .sl)] [(15, 21), (66, 105)] ((fun n x w => digest_Stretch_l3 K n x.1 x.2.1 x.2.2.1 x.2.2.2.1 x.2.2.2.2.1 x.2.2.2.2.2.1 w) n) (.block 1 (.loop (cd (bodyOf f35) [1, 1, 1, 1, 1, 0, 1, 0, 0]))) :=
    mk_loopN (O := tabL [([1, 1, 1, 1, 1, 0, 1, 0, 0, 1, 0, 0, 0], digest_Stretch_s4_se K), ([1, 1, 1, 1, 1, 0, 1, 0, 0, 1, 0, 0, 1, 1, 0, 1], digest_Stretch_l5_se K), ([1, 1, 1, 1, 1, 0, 1, 0, 0, 1, 0, 0, 1, 1, 0, 1, 0, 0, 1, 1, 0, 0, 1, 1], digest_Stretch_l6_se K)]) (root := (bodyOf f35)) (π := [1, 1, 1, 1, 1, 0, 1, 0, 0]) (id := 1) (Li := [(2, .sl), (3, .int .i64), (4, .int .i64), (13, .addr), (15, .sl), (16, .int .u64)]) (Lo := [(15, .sl)]) (S := (fun n x w => digest_Stretch_l3 K n x.1 x.2.1 x.2.2.1 x.2.2.2.1 x.2.2.2.2.1 x.2.2.2.2.2.1 w)) (body := cd (bodyOf f35) [1, 1, 1, 1, 1, 0, 1, 0, 0]) (digest_Stretch_Eok K) (digest_Stretch_Rok K) rfl (Orc.cons (by kernel_rfl) (digest_Stretch_s4_se_ok K [(15, 21), (66, 105)] (by kernel_rfl)) (Orc.cons (by kernel_rfl) (digest_Stretch_l5_se_ok K [(15, 21), (66, 105)] (by kernel_rfl)) (Orc.cons (by kernel_rfl) (digest_Stretch_l6_se_ok K [(15, 21), (66, 105)] (by kernel_rfl)) (Orc.nil _ _ _)))) (by kernel_rfl) (fun _ _ => by kernel_rfl) (fun _ _ _ => by kernel_rfl) n
noncomputable def digest_Stretch_l3_se (K : Nat) : SE := stmtN [(2, .sl), (3, .int .i64), (4, .int .i64), (13, .addr), (15, .sl), (16, .int .u64)] [(15, .sl)] [(15, 21), (66, 105)] (fun x w => digest_Stretch_l3 K K x.1 x.2.1 x.2.2.1 x.2.2.2.1 x.2.2.2.2.1 x.2.2.2.2.2.1 w)
theorem digest_Stretch_l3_se_ok (K : Nat) (R : Rg) (h : subRB [(15, 21), (66, 105)] R = true) : (digest_Stretch_l3_se K).Ok prog R (.block 1 (.loop (cd (bodyOf f35) [1, 1, 1, 1, 1, 0, 1, 0, 0]))) := stmtN_ok (Li := [(2, .sl), (3, .int .i64), (4, .int .i64), (13, .addr), (15, .sl), (16, .int .u64)]) (Lo := [(15, .sl)]) (S := (fun x w => digest_Stretch_l3 K K x.1 x.2.1 x.2.2.1 x.2.2.2.1 x.2.2.2.2.1 x.2.2.2.2.2.1 w)) (digest_Stretch_l3_ok K K) (subR_of h)
theorem digest_Stretch_facts : FunFacts prog 35 f35 (bodyOf f35) [(0, .int .i64), (1, .sl), (2, .sl), (3, .int .i64), (4, .int .i64)] [(0, 109)] := ⟨func35, by kernel_rfl, by kernel_rfl, by kernel_rfl, by kernel_rfl, by kernel_rfl⟩
theorem digest_Stretch_calls (K : Nat) (x : TT [(0, .int .i64), (1, .sl), (2, .sl), (3, .int .i64), (4, .int .i64)]) (w : World) (y : TR [.sl, .int .i64]) (w2 : World) (h : digest_Stretch K x.1 x.2.1 x.2.2.1 x.2.2.2.1 x.2.2.2.2.1 w = some (y, w2)) : Calls prog 35 (encA [(0, .int .i64), (1, .sl), (2, .sl), (3, .int .i64), (4, .int .i64)] x).toArray w (fun e w3 => e = .returned (resV (encR [.sl, .int .i64] y)) ∧ w3 = w2) :=
    mk_fun (O := tabL [([1, 1, 0], digest_Stretch_s0_se K), ([1, 1, 0, 0, 1, 1, 0], digest_Stretch_s1_se K), ([1, 1, 0, 0, 1, 1, 1, 1, 0], digest_Stretch_s2_se K), ([1, 1, 1, 1, 1, 0, 1], digest_Stretch_l3_se K), ([1, 1, 1, 1, 1, 0, 1, 0, 0, 1, 0, 0, 0], digest_Stretch_s4_se K), ([1, 1, 1, 1, 1, 0, 1, 0, 0, 1, 0, 0, 1, 1, 0, 1], digest_Stretch_l5_se K), ([1, 1, 1, 1, 1, 0, 1, 0, 0, 1, 0, 0, 1, 1, 0, 1, 0, 0, 1, 1, 0, 0, 1, 1], digest_Stretch_l6_se K)]) (Lp := [(0, .int .i64), (1, .sl), (2, .sl), (3, .int .i64), (4, .int .i64)]) (Rt := [.sl, .int .i64]) (S := (fun x w => digest_Stretch K x.1 x.2.1 x.2.2.1 x.2.2.2.1 x.2.2.2.2.1 w)) (digest_Stretch_Eok K) (digest_Stretch_Rok K) rfl digest_Stretch_facts (Orc.cons (by kernel_rfl) (digest_Stretch_s0_se_ok K [(0, 109)] (by kernel_rfl)) (Orc.cons (by kernel_rfl) (digest_Stretch_s1_se_ok K [(0, 109)] (by kernel_rfl)) (Orc.cons (by kernel_rfl) (digest_Stretch_s2_se_ok K [(0, 109)] (by kernel_rfl)) (Orc.cons (by kernel_rfl) (digest_Stretch_l3_se_ok K [(0, 109)] (by kernel_rfl)) (Orc.cons (by kernel_rfl) (digest_Stretch_s4_se_ok K [(0, 109)] (by kernel_rfl)) (Orc.cons (by kernel_rfl) (digest_Stretch_l5_se_ok K [(0, 109)] (by kernel_rfl)) (Orc.cons (by kernel_rfl) (digest_Stretch_l6_se_ok K [(0, 109)] (by kernel_rfl)) (Orc.nil _ _ _)))))))) (fun _ _ => by kernel_rfl) x w y w2 h
noncomputable def digest_Stretch_ce (K : Nat) : CE := funE [(0, .int .i64), (1, .sl), (2, .sl), (3, .int .i64), (4, .int .i64)] [.sl, .int .i64] (fun x w => digest_Stretch K x.1 x.2.1 x.2.2.1 x.2.2.2.1 x.2.2.2.2.1 w)
theorem digest_Stretch_ok (K : Nat) : (digest_Stretch_ce K).Ok prog 35 := funE_ok (Rt := [.sl, .int .i64]) (S := (fun x w => digest_Stretch K x.1 x.2.1 x.2.2.1 x.2.2.2.1 x.2.2.2.2.1 w)) digest_Stretch_facts fun x w y w2 h => digest_Stretch_calls K x w y w2 h

noncomputable def ref01_Stretch_E (K : Nat) : List (Nat × CE) := [(32, ref01_Code_ce K)]
theorem ref01_Stretch_Eok (K : Nat) : Env.Ok prog (tab (ref01_Stretch_E K)) := (Env.cons (ref01_Code_ok K) (Env.nil _))
noncomputable def ref01_Stretch_R (K : Nat) : List (Nat × RE) := []
theorem ref01_Stretch_Rok (K : Nat) : REnv.Ok prog (tab (ref01_Stretch_R K)) := (REnv.nil _)
noncomputable def ref01_Stretch_l2_b (K : Nat) (rec : Int → Sl → Sl → Int → Int → Sl → Int → Sl → Sl → Int → Int → World → Option ((Unit) × World)) (hash0 : Int) (pass1 : Sl) (salt2 : Sl) (turns3 : Int) (n4 : Int) (out11 : Sl) (i12 : Int) (u14 : Sl) (sum15 : Sl) (t16 : Int) (j17 : Int) (w : World) : Option ((Unit) × World) :=
  if (decide (j17 < ((u14.len : Nat) : Int))) = true then ((sum15.a).bind fun p_13 =>
  if (0 : Int) ≤ j17 ∧ j17 < ((sum15.len : Nat) : Int) then ((u14.a).bind fun p_14 =>
  if (0 : Int) ≤ j17 ∧ j17 < ((u14.len : Nat) : Int) then ((ldI .u8 (p_13.add ((Int.toNat j17) * 1)) w.drew).bind fun v_15 =>
  (ldI .u8 (p_14.add ((Int.toNat j17) * 1)) w.drew).bind fun v_16 =>
  (sum15.a).bind fun p_17 =>
  if (0 : Int) ≤ j17 ∧ j17 < ((sum15.len : Nat) : Int) then ((stC (p_17.add ((Int.toNat j17) * 1)) (.int .u8 (bits .xor .u8 v_15 v_16)) w.drew).bind fun w_18 =>
  rec hash0 pass1 salt2 turns3 n4 out11 i12 u14 sum15 t16 (IntKind.i64.wrap (j17 + 1)) w_18) else none) else none) else none) else (some ((), w))
noncomputable def ref01_Stretch_l2 (K : Nat) (n : Nat) : Int → Sl → Sl → Int → Int → Sl → Int → Sl → Sl → Int → Int → World → Option ((Unit) × World) := iter (fun _ _ _ _ _ _ _ _ _ _ _ _ => none) (ref01_Stretch_l2_b K) n
noncomputable def ref01_Stretch_l1_b (K : Nat) (rec : Int → Sl → Sl → Int → Int → Sl → Int → Sl → Sl → Int → World → Option ((Unit) × World)) (hash0 : Int) (pass1 : Sl) (salt2 : Sl) (turns3 : Int) (n4 : Int) (out11 : Sl) (i12 : Int) (u14 : Sl) (sum15 : Sl) (t16 : Int) (w : World) : Option ((Unit) × World) :=
  if (decide (t16 < turns3)) = true then (bnd (ref01_Code K hash0 pass1 u14 w) fun r_11 w_12 =>
  bnd (ref01_Stretch_l2 K K hash0 pass1 salt2 turns3 n4 out11 i12 r_11.1 sum15 t16 0 w_12) fun y_19 w_20 =>
  rec hash0 pass1 salt2 turns3 n4 out11 i12 r_11.1 sum15 (IntKind.i64.wrap (t16 + 1)) w_20) else (some ((), w))
noncomputable def ref01_Stretch_l1 (K : Nat) (n : Nat) : Int → Sl → Sl → Int → Int → Sl → Int → Sl → Sl → Int → World → Option ((Unit) × World) := iter (fun _ _ _ _ _ _ _ _ _ _ _ => none) (ref01_Stretch_l1_b K) n
noncomputable def ref01_Stretch_l0_b (K : Nat) (rec : Int → Sl → Sl → Int → Int → Sl → Int → World → Option ((Sl × Unit) × World)) (hash0 : Int) (pass1 : Sl) (salt2 : Sl) (turns3 : Int) (n4 : Int) (out11 : Sl) (i12 : Int) (w : World) : Option ((Sl × Unit) × World) :=
  if (decide (((out11.len : Nat) : Int) < n4)) = true then (bnd (apd prog 25 25 (.slice none 0 0) (.slice salt2.a salt2.len salt2.cap) w) fun s_1 w_2 =>
  bnd (bldS prog 25 4 #[(0, (.int .u8 (IntKind.u8.wrap (Int.fdiv i12 (2 ^ 24))))), (1, (.int .u8 (IntKind.u8.wrap (Int.fdiv i12 (2 ^ 16))))), (2, (.int .u8 (IntKind.u8.wrap (Int.fdiv i12 (2 ^ 8))))), (3, (.int .u8 (IntKind.u8.wrap i12)))] w_2) fun s_3 w_4 =>
  bnd (apd prog 25 25 (.slice s_1.a s_1.len s_1.cap) (.slice s_3.a s_3.len s_3.cap) w_4) fun s_5 w_6 =>
  bnd (ref01_Code K hash0 pass1 s_5 w_6) fun r_7 w_8 =>
  bnd (apd prog 25 25 (.slice none 0 0) (.slice r_7.1.a r_7.1.len r_7.1.cap) w_8) fun s_9 w_10 =>
  bnd (ref01_Stretch_l1 K K hash0 pass1 salt2 turns3 n4 out11 i12 r_7.1 s_9 1 w_10) fun y_21 w_22 =>
  bnd (apd prog 25 25 (.slice out11.a out11.len out11.cap) (.slice s_9.a s_9.len s_9.cap) w_22) fun s_23 w_24 =>
  rec hash0 pass1 salt2 turns3 n4 s_23 (IntKind.i64.wrap (i12 + 1)) w_24) else (some ((out11, ()), w))
noncomputable def ref01_Stretch_l0 (K : Nat) (n : Nat) : Int → Sl → Sl → Int → Int → Sl → Int → World → Option ((Sl × Unit) × World) := iter (fun _ _ _ _ _ _ _ _ => none) (ref01_Stretch_l0_b K) n
/-- coffer/cofferref01.Stretch -/
noncomputable def ref01_Stretch (K : Nat) (hash0 : Int) (pass1 : Sl) (salt2 : Sl) (turns3 : Int) (n4 : Int) (w : World) : Option ((Sl × Unit) × World) :=
  bnd (ref01_Stretch_l0 K K hash0 pass1 salt2 turns3 n4 ⟨none, 0, 0⟩ 1 w) fun y_25 w_26 =>
  if (0 : Int) ≤ n4 ∧ n4 ≤ ((y_25.1.cap : Nat) : Int) then (some ((⟨(sla y_25.1.a 0 y_25.1.cap 1), ((Int.toNat (n4)) - 0), (y_25.1.cap - 0)⟩, ()), w_26)) else none
theorem ref01_Stretch_l2_ok (K : Nat) (n : Nat) : StmtNOk prog [(0, .int .i64), (1, .sl), (2, .sl), (3, .int .i64), (4, .int .i64), (11, .sl), (12, .int .i64), (14, .sl), (15, .sl), (16, .int .i64), (17, .int .i64)] [] [(17, 18), (57, 75)] ((fun n x w => ref01_Stretch_l2 K n x.1 x.2.1 x.2.2.1 x.2.2.2.1 x.2.2.2.2.1 x.2.2.2.2.2.1 x.2.2.2.2.2.2.1 x.2.2.2.2.2.2.2.1 x.2.2.2.2.2.2.2.2.1 x.2.2.2.2.2.2.2.2.2.1 x.2.2.2.2.2.2.2.2.2.2.1 w) n) (.block 4 (.loop (cd (bodyOf f36) [1, 1, 0, 1, 0, 0, 1, 0, 0, 1, 1, 1, 1, 1, 1, 0, 1, 0, 0, 1, 0, 0, 1, 1, 0, 0]))) :=
    mk_loopN (O := tabL []) (root := (bodyOf f36)) (π := [1, 1, 0, 1, 0, 0, 1, 0, 0, 1, 1, 1, 1, 1, 1, 0, 1, 0, 0, 1, 0, 0, 1, 1, 0, 0]) (id := 4) (Li := [(0, .int .i64), (1, .sl), (2, .sl), (3, .int .i64), (4, .int .i64), (11, .sl), (12, .int .i64), (14, .sl), (15, .sl), (16, .int .i64), (17, .int .i64)]) (Lo := []) (S := (fun n x w => ref01_Stretch_l2 K n x.1 x.2.1 x.2.2.1 x.2.2.2.1 x.2.2.2.2.1 x.2.2.2.2.2.1 x.2.2.2.2.2.2.1 x.2.2.2.2.2.2.2.1 x.2.2.2.2.2.2.2.2.1 x.2.2.2.2.2.2.2.2.2.1 x.2.2.2.2.2.2.2.2.2.2.1 w)) (body := cd (bodyOf f36) [1, 1, 0, 1, 0, 0, 1, 0, 0, 1, 1, 1, 1, 1, 1, 0, 1, 0, 0, 1, 0, 0, 1, 1, 0, 0]) (ref01_Stretch_Eok K) (ref01_Stretch_Rok K) rfl (Orc.nil _ _ _) (by kernel_rfl) (fun _ _ => by kernel_rfl) (fun _ _ _ => by kernel_rfl) n
noncomputable def ref01_Stretch_l2_se (K : Nat) : SE := stmtN [(0, .int .i64), (1, .sl), (2, .sl), (3, .int .i64), (4, .int .i64), (11, .sl), (12, .int .i64), (14, .sl), (15, .sl), (16, .int .i64), (17, .int .i64)] [] [(17, 18), (57, 75)] (fun x w => ref01_Stretch_l2 K K x.1 x.2.1 x.2.2.1 x.2.2.2.1 x.2.2.2.2.1 x.2.2.2.2.2.1 x.2.2.2.2.2.2.1 x.2.2.2.2.2.2.2.1 x.2.2.2.2.2.2.2.2.1 x.2.2.2.2.2.2.2.2.2.1 x.2.2.2.2.2.2.2.2.2.2.1 w)
theorem ref01_Stretch_l2_se_ok (K : Nat) (R : Rg) (h : subRB [(17, 18), (57, 75)] R = true) : (ref01_Stretch_l2_se K).Ok prog R (.block 4 (.loop (cd (bodyOf f36) [1, 1, 0, 1, 0, 0, 1, 0, 0, 1, 1, 1, 1, 1, 1, 0, 1, 0, 0, 1, 0, 0, 1, 1, 0, 0]))) := stmtN_ok (Li := [(0, .int .i64), (1, .sl), (2, .sl), (3, .int .i64), (4, .int .i64), (11, .sl), (12, .int .i64), (14, .sl), (15, .sl), (16, .int .i64), (17, .int .i64)]) (Lo := []) (S := (fun x w => ref01_Stretch_l2 K K x.1 x.2.1 x.2.2.1 x.2.2.2.1 x.2.2.2.2.1 x.2.2.2.2.2.1 x.2.2.2.2.2.2.1 x.2.2.2.2.2.2.2.1 x.2.2.2.2.2.2.2.2.1 x.2.2.2.2.2.2.2.2.2.1 x.2.2.2.2.2.2.2.2.2.2.1 w)) (ref01_Stretch_l2_ok K K) (subR_of h)
theorem ref01_Stretch_l1_ok (K : Nat) (n : Nat) : StmtNOk prog [(0, .int .i64), (1, .sl), (2, .sl), (3, .int .i64), (4, .int .i64), (11, .sl), (12, .int .i64), (14, .sl), (15, .sl), (16, .int .i64)] [] [(14, 15), (16, 18), (48, 75)] ((fun n x w => ref01_Stretch_l1 K n x.1 x.2.1 x.2.2.1 x.2.2.2.1 x.2.2.2.2.1 x.2.2.2.2.2.1 x.2.2.2.2.2.2.1 x.2.2.2.2.2.2.2.1 x.2.2.2.2.2.2.2.2.1 x.2.2.2.2.2.2.2.2.2.1 w) n) (.block 2 (.loop (cd (bodyOf f36) [1, 1, 0, 1, 0, 0, 1, 0, 0, 1, 1, 1, 1, 1, 1, 0, 1, 0, 0]))) :=
    mk_loopN (O := tabL [([1, 1, 0, 1, 0, 0, 1, 0, 0, 1, 1, 1, 1, 1, 1, 0, 1, 0, 0, 1, 0, 0, 1, 1], ref01_Stretch_l2_se K)]) (root := (bodyOf f36)) (π := [1, 1, 0, 1, 0, 0, 1, 0, 0, 1, 1, 1, 1, 1, 1, 0, 1, 0, 0]) (id := 2) (Li := [(0, .int .i64), (1, .sl), (2, .sl), (3, .int .i64), (4, .int .i64), (11, .sl), (12, .int .i64), (14, .sl), (15, .sl), (16, .int .i64)]) (Lo := []) (S := (fun n x w => ref01_Stretch_l1 K n x.1 x.2.1 x.2.2.1 x.2.2.2.1 x.2.2.2.2.1 x.2.2.2.2.2.1 x.2.2.2.2.2.2.1 x.2.2.2.2.2.2.2.1 x.2.2.2.2.2.2.2.2.1 x.2.2.2.2.2.2.2.2.2.1 w)) (body := cd (bodyOf f36) [1, 1, 0, 1, 0, 0, 1, 0, 0, 1, 1, 1, 1, 1, 1, 0, 1, 0, 0]) (ref01_Stretch_Eok K) (ref01_Stretch_Rok K) rfl (Orc.cons (by kernel_rfl) (ref01_Stretch_l2_se_ok K [(14, 15), (16, 18), (48, 75)] (by kernel_rfl)) (Orc.nil _ _ _)) (by kernel_rfl) (fun _ _ => by kernel_rfl) (fun _ _ _ => by kernel_rfl) n
noncomputable def ref01_Stretch_l1_se (K : Nat) : SE := stmtN [(0, .int .i64), (1, .sl), (2, .sl), (3, .int .i64), (4, .int .i64), (11, .sl), (12, .int .i64), (14, .sl), (15, .sl), (16, .int .i64)] [] [(14, 15), (16, 18), (48, 75)] (fun x w => ref01_Stretch_l1 K K x.1 x.2.1 x.2.2.1 x.2.2.2.1 x.2.2.2.2.1 x.2.2.2.2.2.1 x.2.2.2.2.2.2.1 x.2.2.2.2.2.2.2.1 x.2.2.2.2.2.2.2.2.1 x.2.2.2.2.2.2.2.2.2.1 w)
theorem ref01_Stretch_l1_se_ok (K : Nat) (R : Rg) (h : subRB [(14, 15), (16, 18), (48, 75)] R = true) : (ref01_Stretch_l1_se K).Ok prog R (.block 2 (.loop (cd (bodyOf f36) [1, 1, 0, 1, 0, 0, 1, 0, 0, 1, 1, 1, 1, 1, 1, 0, 1, 0, 0]))) := stmtN_ok (Li := [(0, .int .i64), (1, .sl), (2, .sl), (3, .int .i64), (4, .int .i64), (11, .sl), (12, .int .i64), (14, .sl), (15, .sl), (16, .int .i64)]) (Lo := []) (S := (fun x w => ref01_Stretch_l1 K K x.1 x.2.1 x.2.2.1 x.2.2.2.1 x.2.2.2.2.1 x.2.2.2.2.2.1 x.2.2.2.2.2.2.1 x.2.2.2.2.2.2.2.1 x.2.2.2.2.2.2.2.2.1 x.2.2.2.2.2.2.2.2.2.1 w)) (ref01_Stretch_l1_ok K K) (subR_of h)
theorem ref01_Stretch_l0_ok (K : Nat) (n : Nat) : StmtNOk prog [(0, .int .i64), (1, .sl), (2, .sl), (3, .int .i64), (4, .int .i64), (11, .sl), (12, .int .i64)] [(11, .sl)] [(11, 78)] ((fun n x w => ref01_Stretch_l0 K n x.1 x.2.1 x.2.2.1 x.2.2.2.1 x.2.2.2.2.1 x.2.2.2.2.2.1 x.2.2.2.2.2.2.1 w) n) (.block 0 (.loop (cd (bodyOf f36) [1, 1, 0, 1, 0, 0]))) :=
    mk_loopN (O := tabL [([1, 1, 0, 1, 0, 0, 1, 0, 0, 1, 1, 1, 1, 1, 1, 0, 1], ref01_Stretch_l1_se K), ([1, 1, 0, 1, 0, 0, 1, 0, 0, 1, 1, 1, 1, 1, 1, 0, 1, 0, 0, 1, 0, 0, 1, 1], ref01_Stretch_l2_se K)]) (root := (bodyOf f36)) (π := [1, 1, 0, 1, 0, 0]) (id := 0) (Li := [(0, .int .i64), (1, .sl), (2, .sl), (3, .int .i64), (4, .int .i64), (11, .sl), (12, .int .i64)]) (Lo := [(11, .sl)]) (S := (fun n x w => ref01_Stretch_l0 K n x.1 x.2.1 x.2.2.1 x.2.2.2.1 x.2.2.2.2.1 x.2.2.2.2.2.1 x.2.2.2.2.2.2.1 w)) (body := cd (bodyOf f36) [1, 1, 0, 1, 0, 0]) (ref01_Stretch_Eok K) (ref01_Stretch_Rok K) rfl (Orc.cons (by kernel_rfl) (ref01_Stretch_l1_se_ok K [(11, 78)] (by kernel_rfl)) (Orc.cons (by kernel_rfl) (ref01_Stretch_l2_se_ok K [(11, 78)] (by kernel_rfl)) (Orc.nil _ _ _))) (by kernel_rfl) (fun _ _ => by kernel_rfl) (fun _ _ _ => by kernel_rfl) n
noncomputable def ref01_Stretch_l0_se (K : Nat) : SE := stmtN [(0, .int .i64), (1, .sl), (2, .sl), (3, .int .i64), (4, .int .i64), (11, .sl), (12, .int .i64)] [(11, .sl)] [(11, 78)] (fun x w => ref01_Stretch_l0 K K x.1 x.2.1 x.2.2.1 x.2.2.2.1 x.2.2.2.2.1 x.2.2.2.2.2.1 x.2.2.2.2.2.2.1 w)
theorem ref01_Stretch_l0_se_ok (K : Nat) (R : Rg) (h : subRB [(11, 78)] R = true) : (ref01_Stretch_l0_se K).Ok prog R (.block 0 (.loop (cd (bodyOf f36) [1, 1, 0, 1, 0, 0]))) := stmtN_ok (Li := [(0, .int .i64), (1, .sl), (2, .sl), (3, .int .i64), (4, .int .i64), (11, .sl), (12, .int .i64)]) (Lo := [(11, .sl)]) (S := (fun x w => ref01_Stretch_l0 K K x.1 x.2.1 x.2.2.1 x.2.2.2.1 x.2.2.2.2.1 x.2.2.2.2.2.1 x.2.2.2.2.2.2.1 w)) (ref01_Stretch_l0_ok K K) (subR_of h)
theorem ref01_Stretch_facts : FunFacts prog 36 f36 (bodyOf f36) [(0, .int .i64), (1, .sl), (2, .sl), (3, .int .i64), (4, .int .i64)] [(0, 81)] := ⟨func36, by kernel_rfl, by kernel_rfl, by kernel_rfl, by kernel_rfl, by kernel_rfl⟩
theorem ref01_Stretch_calls (K : Nat) (x : TT [(0, .int .i64), (1, .sl), (2, .sl), (3, .int .i64), (4, .int .i64)]) (w : World) (y : TR [.sl]) (w2 : World) (h : ref01_Stretch K x.1 x.2.1 x.2.2.1 x.2.2.2.1 x.2.2.2.2.1 w = some (y, w2)) : Calls prog 36 (encA [(0, .int .i64), (1, .sl), (2, .sl), (3, .int .i64), (4, .int .i64)] x).toArray w (fun e w3 => e = .returned (resV (encR [.sl] y)) ∧ w3 = w2) :=
    mk_fun (O := tabL [([1, 1, 0, 1], ref01_Stretch_l0_se K), ([1, 1, 0, 1, 0, 0, 1, 0, 0, 1, 1, 1, 1, 1, 1, 0, 1], ref01_Stretch_l1_se K), ([1, 1, 0, 1, 0, 0, 1, 0, 0, 1, 1, 1, 1, 1, 1, 0, 1, 0, 0, 1, 0, 0, 1, 1], ref01_Stretch_l2_se K)]) (Lp := [(0, .int .i64), (1, .sl), (2, .sl), (3, .int .i64), (4, .int .i64)]) (Rt := [.sl]) (S := (fun x w => ref01_Stretch K x.1 x.2.1 x.2.2.1 x.2.2.2.1 x.2.2.2.2.1 w)) (ref01_Stretch_Eok K) (ref01_Stretch_Rok K) rfl ref01_Stretch_facts (Orc.cons (by kernel_rfl) (ref01_Stretch_l0_se_ok K [(0, 81)] (by kernel_rfl)) (Orc.cons (by kernel_rfl) (ref01_Stretch_l1_se_ok K [(0, 81)] (by kernel_rfl)) (Orc.cons (by kernel_rfl) (ref01_Stretch_l2_se_ok K [(0, 81)] (by kernel_rfl)) (Orc.nil _ _ _)))) (fun _ _ => by kernel_rfl) x w y w2 h
noncomputable def ref01_Stretch_ce (K : Nat) : CE := funE [(0, .int .i64), (1, .sl), (2, .sl), (3, .int .i64), (4, .int .i64)] [.sl] (fun x w => ref01_Stretch K x.1 x.2.1 x.2.2.1 x.2.2.2.1 x.2.2.2.2.1 w)
theorem ref01_Stretch_ok (K : Nat) : (ref01_Stretch_ce K).Ok prog 36 := funE_ok (Rt := [.sl]) (S := (fun x w => ref01_Stretch K x.1 x.2.1 x.2.2.1 x.2.2.2.1 x.2.2.2.2.1 w)) ref01_Stretch_facts fun x w y w2 h => ref01_Stretch_calls K x w y w2 h

noncomputable def law01_DigestStretches_E (K : Nat) : List (Nat × CE) := [(30, book_Bytes_ce K), (35, digest_Stretch_ce K), (33, book_WholeBytes_ce K), (36, ref01_Stretch_ce K), (27, book_SameBytes_ce K), (29, book_SpoilBytes_ce K)]
theorem law01_DigestStretches_Eok (K : Nat) : Env.Ok prog (tab (law01_DigestStretches_E K)) := (Env.cons (book_Bytes_ok K) (Env.cons (digest_Stretch_ok K) (Env.cons (book_WholeBytes_ok K) (Env.cons (ref01_Stretch_ok K) (Env.cons (book_SameBytes_ok K) (Env.cons (book_SpoilBytes_ok K) (Env.nil _)))))))
noncomputable def law01_DigestStretches_R (K : Nat) : List (Nat × RE) := [(34, ref01_StretchError_re), (19, ref01_Size_re), (26, law01_num_re)]
theorem law01_DigestStretches_Rok (K : Nat) : REnv.Ok prog (tab (law01_DigestStretches_R K)) := (REnv.cons (ref01_StretchError_ok) (REnv.cons (ref01_Size_ok) (REnv.cons (law01_num_ok) (REnv.nil _))))
noncomputable def law01_DigestStretches_s0 (K : Nat) (hash3 : Int) (turns6 : Int) (n7 : Int) (want8 : Int) (w : World) : Option ((Bool × Unit) × World) :=
  if (want8 == 0) = true then (if (decide (turns6 > 600)) = true then (some ((true, ()), w)) else ((ref01_Size hash3).bind fun r_9 =>
  (ref01_Size hash3).bind fun r_10 =>
  if r_10.1 ≠ 0 then (some (((decide ((IntKind.i64.wrap (turns6 * (IntKind.i64.wrap (Int.tdiv (IntKind.i64.wrap ((IntKind.i64.wrap (n7 + r_9.1)) - 1)) r_10.1)))) > 600)), ()), w)) else none)) else (some ((false, ()), w))
noncomputable def law01_DigestStretches_s1 (K : Nat) (turns6 : Int) (n7 : Int) (a58 : Bool) (w : World) : Option ((Int × Int × Unit) × World) :=
  if a58 = true then (some (((IntKind.i64.wrap (1 + (Int.tmod turns6 4))), (IntKind.i64.wrap (1 + (Int.tmod n7 200))), ()), w)) else (some ((turns6, n7, ()), w))
noncomputable def law01_DigestStretches_s2 (K : Nat) (pass4 : Sl) (salt5 : Sl) (want8 : Int) (p9 : Sl) (s10 : Sl) (e12 : Int) (f14 : Int) (w : World) : Option ((Bool × Unit) × World) :=
  (law01_num e12).bind fun r_23 =>
  if (r_23.1 != want8) = true then (some ((true, ()), w)) else ((law01_num f14).bind fun r_24 =>
  if (r_24.1 != want8) = true then (some ((true, ()), w)) else (bnd (book_WholeBytes K p9 pass4 w) fun r_25 w_26 =>
  if (!r_25.1) = true then (some ((true, ()), w_26)) else (bnd (book_WholeBytes K s10 salt5 w_26) fun r_27 w_28 =>
  some (((!r_27.1), ()), w_28))))
noncomputable def law01_DigestStretches_s3 (K : Nat) (hash3 : Int) (pass4 : Sl) (salt5 : Sl) (turns6 : Int) (n7 : Int) (w15 : Sl) (a110 : Bool) (w : World) : Option ((Sl × Unit) × World) :=
  if a110 = true then (bnd (ref01_Stretch K hash3 pass4 salt5 turns6 n7 w) fun r_31 w_32 =>
  some ((r_31.1, ()), w_32)) else (some ((w15, ()), w))
noncomputable def law01_DigestStretches_s4 (K : Nat) (a11 : Sl) (b13 : Sl) (w15 : Sl) (w : World) : Option ((Bool × Unit) × World) :=
  bnd (book_SameBytes K a11 w15 w) fun r_35 w_36 =>
  if (!r_35.1) = true then (some ((true, ()), w_36)) else (bnd (book_SameBytes K b13 w15 w_36) fun r_37 w_38 =>
  some (((!r_37.1), ()), w_38))
/-- coffer/cofferlaw01.DigestStretches -/
noncomputable def law01_DigestStretches (K : Nat) (d0 : Array Value) (w : World) : Option ((Bool × Unit) × World) :=
  bnd (newB d0 42 w) fun p_1 w_2 =>
  (ldI .i64 (p_1.add 0) w_2).bind fun v_3 =>
  (ldS (p_1.add 1) w_2).bind fun v_4 =>
  (ldS (p_1.add 2) w_2).bind fun v_5 =>
  (ldI .i64 (p_1.add 4) w_2).bind fun v_6 =>
  (ldI .i64 (p_1.add 5) w_2).bind fun v_7 =>
  if (decide ((IntKind.i64.wrap (((v_4.len : Nat) : Int) + ((v_5.len : Nat) : Int))) > 65536)) = true then (some ((true, ()), w_2)) else ((ref01_StretchError v_3 ((v_4.len : Nat) : Int) ((v_5.len : Nat) : Int) v_6 v_7).bind fun r_8 =>
  bnd (law01_DigestStretches_s0 K v_3 v_6 v_7 r_8.1 w_2) fun y_11 w_12 =>
  bnd (law01_DigestStretches_s1 K v_6 v_7 y_11.1 w_12) fun y_13 w_14 =>
  bnd (book_Bytes K v_4 w_14) fun r_15 w_16 =>
  bnd (book_Bytes K v_5 w_16) fun r_17 w_18 =>
  bnd (digest_Stretch K v_3 r_15.1 r_17.1 y_13.1 y_13.2.1 w_18) fun r_19 w_20 =>
  bnd (digest_Stretch K v_3 r_15.1 r_17.1 y_13.1 y_13.2.1 w_20) fun r_21 w_22 =>
  bnd (law01_DigestStretches_s2 K v_4 v_5 r_8.1 r_15.1 r_17.1 r_19.2.1 r_21.2.1 w_22) fun y_29 w_30 =>
  if y_29.1 = true then (some ((false, ()), w_30)) else (bnd (law01_DigestStretches_s3 K v_3 v_4 v_5 y_13.1 y_13.2.1 ⟨none, 0, 0⟩ (r_8.1 == 0) w_30) fun y_33 w_34 =>
  bnd (law01_DigestStretches_s4 K r_19.1 r_21.1 y_33.1 w_34) fun y_39 w_40 =>
  if y_39.1 = true then (some ((false, ()), w_40)) else (bnd (book_SpoilBytes K r_19.1 w_40) fun r_41 w_42 =>
  bnd (book_SameBytes K r_21.1 y_33.1 w_42) fun r_43 w_44 =>
  some ((r_43.1, ()), w_44))))
theorem law01_DigestStretches_s0_ok (K : Nat) : StmtNOk prog [(3, .int .i64), (6, .int .i64), (7, .int .i64), (8, .int .i64)] [(58, .bool)] [(40, 59)] (fun x w => law01_DigestStretches_s0 K x.1 x.2.1 x.2.2.1 x.2.2.2.1 w) (cd (bodyOf f6) [1, 1, 1, 1, 1, 1, 1, 1, 0, 0]) :=
    mk_stmtN (O := tabL []) (root := (bodyOf f6)) (π := [1, 1, 1, 1, 1, 1, 1, 1, 0, 0]) (Li := [(3, .int .i64), (6, .int .i64), (7, .int .i64), (8, .int .i64)]) (Lo := [(58, .bool)]) (S := (fun x w => law01_DigestStretches_s0 K x.1 x.2.1 x.2.2.1 x.2.2.2.1 w)) (law01_DigestStretches_Eok K) (law01_DigestStretches_Rok K) rfl (Orc.nil _ _ _) (by kernel_rfl) (fun _ _ => by kernel_rfl)
noncomputable def law01_DigestStretches_s0_se (K : Nat) : SE := stmtN [(3, .int .i64), (6, .int .i64), (7, .int .i64), (8, .int .i64)] [(58, .bool)] [(40, 59)] (fun x w => law01_DigestStretches_s0 K x.1 x.2.1 x.2.2.1 x.2.2.2.1 w)
theorem law01_DigestStretches_s0_se_ok (K : Nat) (R : Rg) (h : subRB [(40, 59)] R = true) : (law01_DigestStretches_s0_se K).Ok prog R (cd (bodyOf f6) [1, 1, 1, 1, 1, 1, 1, 1, 0, 0]) := stmtN_ok (Li := [(3, .int .i64), (6, .int .i64), (7, .int .i64), (8, .int .i64)]) (Lo := [(58, .bool)]) (S := (fun x w => law01_DigestStretches_s0 K x.1 x.2.1 x.2.2.1 x.2.2.2.1 w)) (law01_DigestStretches_s0_ok K) (subR_of h)
theorem law01_DigestStretches_s1_ok (K : Nat) : StmtNOk prog [(6, .int .i64), (7, .int .i64), (58, .bool)] [(6, .int .i64), (7, .int .i64)] [(6, 8), (59, 65)] (fun x w => law01_DigestStretches_s1 K x.1 x.2.1 x.2.2.1 w) (cd (bodyOf f6) [1, 1, 1, 1, 1, 1, 1, 1, 0, 1]) :=
    mk_stmtN (O := tabL []) (root := (bodyOf f6)) (π := [1, 1, 1, 1, 1, 1, 1, 1, 0, 1]) (Li := [(6, .int .i64), (7, .int .i64), (58, .bool)]) (Lo := [(6, .int .i64), (7, .int .i64)]) (S := (fun x w => law01_DigestStretches_s1 K x.1 x.2.1 x.2.2.1 w)) (law01_DigestStretches_Eok K) (law01_DigestStretches_Rok K) rfl (Orc.nil _ _ _) (by kernel_rfl) (fun _ _ => by kernel_rfl)
noncomputable def law01_DigestStretches_s1_se (K : Nat) : SE := stmtN [(6, .int .i64), (7, .int .i64), (58, .bool)] [(6, .int .i64), (7, .int .i64)] [(6, 8), (59, 65)] (fun x w => law01_DigestStretches_s1 K x.1 x.2.1 x.2.2.1 w)
theorem law01_DigestStretches_s1_se_ok (K : Nat) (R : Rg) (h : subRB [(6, 8), (59, 65)] R = true) : (law01_DigestStretches_s1_se K).Ok prog R (cd (bodyOf f6) [1, 1, 1, 1, 1, 1, 1, 1, 0, 1]) := stmtN_ok (Li := [(6, .int .i64), (7, .int .i64), (58, .bool)]) (Lo := [(6, .int .i64), (7, .int .i64)]) (S := (fun x w => law01_DigestStretches_s1 K x.1 x.2.1 x.2.2.1 w)) (law01_DigestStretches_s1_ok K) (subR_of h)
theorem law01_DigestStretches_s2_ok (K : Nat) : StmtNOk prog [(4, .sl), (5, .sl), (8, .int .i64), (9, .sl), (10, .sl), (12, .int .i64), (14, .int .i64)] [(108, .bool)] [(87, 109)] (fun x w => law01_DigestStretches_s2 K x.1 x.2.1 x.2.2.1 x.2.2.2.1 x.2.2.2.2.1 x.2.2.2.2.2.1 x.2.2.2.2.2.2.1 w) (cd (bodyOf f6) [1, 1, 1, 1, 1, 1, 1, 1, 1, 1, 1, 1, 1, 0, 0]) :=
    mk_stmtN (O := tabL []) (root := (bodyOf f6)) (π := [1, 1, 1, 1, 1, 1, 1, 1, 1, 1, 1, 1, 1, 0, 0]) (Li := [(4, .sl), (5, .sl), (8, .int .i64), (9, .sl), (10, .sl), (12, .int .i64), (14, .int .i64)]) (Lo := [(108, .bool)]) (S := (fun x w => law01_DigestStretches_s2 K x.1 x.2.1 x.2.2.1 x.2.2.2.1 x.2.2.2.2.1 x.2.2.2.2.2.1 x.2.2.2.2.2.2.1 w)) (law01_DigestStretches_Eok K) (law01_DigestStretches_Rok K) rfl (Orc.nil _ _ _) (by kernel_rfl) (fun _ _ => by kernel_rfl)
noncomputable def law01_DigestStretches_s2_se (K : Nat) : SE := stmtN [(4, .sl), (5, .sl), (8, .int .i64), (9, .sl), (10, .sl), (12, .int .i64), (14, .int .i64)] [(108, .bool)] [(87, 109)] (fun x w => law01_DigestStretches_s2 K x.1 x.2.1 x.2.2.1 x.2.2.2.1 x.2.2.2.2.1 x.2.2.2.2.2.1 x.2.2.2.2.2.2.1 w)
theorem law01_DigestStretches_s2_se_ok (K : Nat) (R : Rg) (h : subRB [(87, 109)] R = true) : (law01_DigestStretches_s2_se K).Ok prog R (cd (bodyOf f6) [1, 1, 1, 1, 1, 1, 1, 1, 1, 1, 1, 1, 1, 0, 0]) := stmtN_ok (Li := [(4, .sl), (5, .sl), (8, .int .i64), (9, .sl), (10, .sl), (12, .int .i64), (14, .int .i64)]) (Lo := [(108, .bool)]) (S := (fun x w => law01_DigestStretches_s2 K x.1 x.2.1 x.2.2.1 x.2.2.2.1 x.2.2.2.2.1 x.2.2.2.2.2.1 x.2.2.2.2.2.2.1 w)) (law01_DigestStretches_s2_ok K) (subR_of h)
theorem law01_DigestStretches_s3_ok (K : Nat) : StmtNOk prog [(3, .int .i64), (4, .sl), (5, .sl), (6, .int .i64), (7, .int .i64), (15, .sl), (110, .bool)] [(15, .sl)] [(15, 16), (111, 117)] (fun x w => law01_DigestStretches_s3 K x.1 x.2.1 x.2.2.1 x.2.2.2.1 x.2.2.2.2.1 x.2.2.2.2.2.1 x.2.2.2.2.2.2.1 w) (cd (bodyOf f6) [1, 1, 1, 1, 1, 1, 1, 1, 1, 1, 1, 1, 1, 1, 1, 0, 1]) :=
    mk_stmtN (O := tabL []) (root := (bodyOf f6)) (π := [1, 1, 1, 1, 1, 1, 1, 1, 1, 1, 1, 1, 1, 1, 1, 0, 1]) (Li := [(3, .int .i64), (4, .sl), (5, .sl), (6, .int .i64), (7, .int .i64), (15, .sl), (110, .bool)]) (Lo := [(15, .sl)]) (S := (fun x w => law01_DigestStretches_s3 K x.1 x.2.1 x.2.2.1 x.2.2.2.1 x.2.2.2.2.1 x.2.2.2.2.2.1 x.2.2.2.2.2.2.1 w)) (law01_DigestStretches_Eok K) (law01_DigestStretches_Rok K) rfl (Orc.nil _ _ _) (by kernel_rfl) (fun _ _ => by kernel_rfl)
noncomputable def law01_DigestStretches_s3_se (K : Nat) : SE := stmtN [(3, .int .i64), (4, .sl), (5, .sl), (6, .int .i64), (7, .int .i64), (15, .sl), (110, .bool)] [(15, .sl)] [(15, 16), (111, 117)] (fun x w => law01_DigestStretches_s3 K x.1 x.2.1 x.2.2.1 x.2.2.2.1 x.2.2.2.2.1 x.2.2.2.2.2.1 x.2.2.2.2.2.2.1 w)
theorem law01_DigestStretches_s3_se_ok (K : Nat) (R : Rg) (h : subRB [(15, 16), (111, 117)] R = true) : (law01_DigestStretches_s3_se K).Ok prog R (cd (bodyOf f6) [1, 1, 1, 1, 1, 1, 1, 1, 1, 1, 1, 1, 1, 1, 1, 0, 1]) := stmtN_ok (Li := [(3, .int .i64), (4, .sl), (5, .sl), (6, .int .i64), (7, .int .i64), (15, .sl), (110, .bool)]) (Lo := [(15, .sl)]) (S := (fun x w => law01_DigestStretches_s3 K x.1 x.2.1 x.2.2.1 x.2.2.2.1 x.2.2.2.2.1 x.2.2.2.2.2.1 x.2.2.2.2.2.2.1 w)) (law01_DigestStretches_s3_ok K) (subR_of h)
theorem law01_DigestStretches_s4_ok (K : Nat) : StmtNOk prog [(11, .sl), (13, .sl), (15, .sl)] [(126, .bool)] [(117, 127)] (fun x w => law01_DigestStretches_s4 K x.1 x.2.1 x.2.2.1 w) (cd (bodyOf f6) [1, 1, 1, 1, 1, 1, 1, 1, 1, 1, 1, 1, 1, 1, 1, 1, 0, 0]) :=
    mk_stmtN (O := tabL []) (root := (bodyOf f6)) (π := [1, 1, 1, 1, 1, 1, 1, 1, 1, 1, 1, 1, 1, 1, 1, 1, 0, 0]) (Li := [(11, .sl), (13, .sl), (15, .sl)]) (Lo := [(126, .bool)]) (S := (fun x w => law01_DigestStretches_s4 K x.1 x.2.1 x.2.2.1 w)) (law01_DigestStretches_Eok K) (law01_DigestStretches_Rok K) rfl (Orc.nil _ _ _) (by kernel_rfl) (fun _ _ => by kernel_rfl)
noncomputable def law01_DigestStretches_s4_se (K : Nat) : SE := stmtN [(11, .sl), (13, .sl), (15, .sl)] [(126, .bool)] [(117, 127)] (fun x w => law01_DigestStretches_s4 K x.1 x.2.1 x.2.2.1 w)
theorem law01_DigestStretches_s4_se_ok (K : Nat) (R : Rg) (h : subRB [(117, 127)] R = true) : (law01_DigestStretches_s4_se K).Ok prog R (cd (bodyOf f6) [1, 1, 1, 1, 1, 1, 1, 1, 1, 1, 1, 1, 1, 1, 1, 1, 0, 0]) := stmtN_ok (Li := [(11, .sl), (13, .sl), (15, .sl)]) (Lo := [(126, .bool)]) (S := (fun x w => law01_DigestStretches_s4 K x.1 x.2.1 x.2.2.1 w)) (law01_DigestStretches_s4_ok K) (subR_of h)
theorem law01_DigestStretches_facts : FunFacts prog 6 f6 (bodyOf f6) [(0, .agg)] [(0, 132)] := ⟨func6, by kernel_rfl, by kernel_rfl, by kernel_rfl, by kernel_rfl, by kernel_rfl⟩
theorem law01_DigestStretches_calls (K : Nat) (x : TT [(0, .agg)]) (w : World) (y : TR [.bool]) (w2 : World) (h : law01_DigestStretches K x.1 w = some (y, w2)) : Calls prog 6 (encA [(0, .agg)] x).toArray w (fun e w3 => e = .returned (resV (encR [.bool] y)) ∧ w3 = w2) :=
    mk_fun (O := tabL [([1, 1, 1, 1, 1, 1, 1, 1, 0, 0], law01_DigestStretches_s0_se K), ([1, 1, 1, 1, 1, 1, 1, 1, 0, 1], law01_DigestStretches_s1_se K), ([1, 1, 1, 1, 1, 1, 1, 1, 1, 1, 1, 1, 1, 0, 0], law01_DigestStretches_s2_se K), ([1, 1, 1, 1, 1, 1, 1, 1, 1, 1, 1, 1, 1, 1, 1, 0, 1], law01_DigestStretches_s3_se K), ([1, 1, 1, 1, 1, 1, 1, 1, 1, 1, 1, 1, 1, 1, 1, 1, 0, 0], law01_DigestStretches_s4_se K)]) (Lp := [(0, .agg)]) (Rt := [.bool]) (S := (fun x w => law01_DigestStretches K x.1 w)) (law01_DigestStretches_Eok K) (law01_DigestStretches_Rok K) rfl law01_DigestStretches_facts (Orc.cons (by kernel_rfl) (law01_DigestStretches_s0_se_ok K [(0, 132)] (by kernel_rfl)) (Orc.cons (by kernel_rfl) (law01_DigestStretches_s1_se_ok K [(0, 132)] (by kernel_rfl)) (Orc.cons (by kernel_rfl) (law01_DigestStretches_s2_se_ok K [(0, 132)] (by kernel_rfl)) (Orc.cons (by kernel_rfl) (law01_DigestStretches_s3_se_ok K [(0, 132)] (by kernel_rfl)) (Orc.cons (by kernel_rfl) (law01_DigestStretches_s4_se_ok K [(0, 132)] (by kernel_rfl)) (Orc.nil _ _ _)))))) (fun _ _ => by kernel_rfl) x w y w2 h
noncomputable def law01_DigestStretches_ce (K : Nat) : CE := funE [(0, .agg)] [.bool] (fun x w => law01_DigestStretches K x.1 w)
theorem law01_DigestStretches_ok (K : Nat) : (law01_DigestStretches_ce K).Ok prog 6 := funE_ok (Rt := [.bool]) (S := (fun x w => law01_DigestStretches K x.1 w)) law01_DigestStretches_facts fun x w y w2 h => law01_DigestStretches_calls K x w y w2 h

end Go.Sh
