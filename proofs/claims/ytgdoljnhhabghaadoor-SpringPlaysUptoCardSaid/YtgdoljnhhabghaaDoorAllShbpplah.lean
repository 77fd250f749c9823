/- Texts of this claim, put together: Sh2, Sh3 -/
import Derived.Test.YtgdoljnhhabghaaDoorAllShjgkafn
/- What functions of the program do, as Lean functions; that the machine does just that. Printed by shal.py, a program of this claim's writer. -/
set_option maxRecDepth 100000
set_option linter.unusedVariables false
namespace Go.Sh
open Go.Fw Go.Proofs.Tryd

noncomputable def digest_state_end_E (K : Nat) : List (Nat × CE) := [(59, digest_state_take_ce K), (69, digest_big_ce K)]
theorem digest_state_end_Eok (K : Nat) : Env.Ok prog (tab (digest_state_end_E K)) := (Env.cons (digest_state_take_ok K) (Env.cons (digest_big_ok K) (Env.nil _)))
noncomputable def digest_state_end_R (K : Nat) : List (Nat × RE) := []
theorem digest_state_end_Rok (K : Nat) : REnv.Ok prog (tab (digest_state_end_R K)) := (REnv.nil _)
noncomputable def digest_state_end_l0_b (K : Nat) (rec : Addr → Int → Addr → Int → World → Option ((Int × Unit) × World)) (s1 : Addr) (bits3 : Int) (pad4 : Addr) (n5 : Int) (w : World) : Option ((Int × Unit) × World) :=
  (ldI .u64 (s1.add 5) w.drew).bind fun v_7 =>
  (ldI .i64 ((s1.add 0).add 1) w.drew).bind fun v_8 =>
  if (IntKind.u64.wrap v_8) ≠ 0 then ((ldI .i64 ((s1.add 0).add 2) w.drew).bind fun v_9 =>
  (ldI .i64 ((s1.add 0).add 1) w.drew).bind fun v_10 =>
  if v_10 ≠ 0 then (if ((Int.tmod (IntKind.i64.wrap ((IntKind.i64.wrap ((IntKind.i64.wrap (Int.tmod v_7 (IntKind.u64.wrap v_8))) + n5)) + (IntKind.i64.wrap (2 * v_9)))) v_10) != 0) = true then (rec s1 bits3 pad4 (IntKind.i64.wrap (n5 + 1)) w.drew) else (some ((n5, ()), w.drew))) else none) else none
noncomputable def digest_state_end_l0 (K : Nat) (n : Nat) : Addr → Int → Addr → Int → World → Option ((Int × Unit) × World) := iter (fun _ _ _ _ _ => none) (digest_state_end_l0_b K) n
noncomputable def digest_state_end_l1_b (K : Nat) (rec : Addr → Int → Addr → Int → Int → World → Option ((Unit) × World)) (s1 : Addr) (bits3 : Int) (pad4 : Addr) (n5 : Int) (a42 : Int) (w : World) : Option ((Unit) × World) :=
  if (decide (a42 < 8)) = true then (if (0 : Int) ≤ (IntKind.i64.wrap (8 * a42)) then (if (0 : Int) ≤ (IntKind.i64.wrap ((IntKind.i64.wrap (n5 - 1)) - a42)) ∧ (IntKind.i64.wrap ((IntKind.i64.wrap (n5 - 1)) - a42)) < ((256 : Nat) : Int) then ((stC (pad4.add ((Int.toNat (IntKind.i64.wrap ((IntKind.i64.wrap (n5 - 1)) - a42))) * 1)) (.int .u8 (IntKind.u8.wrap (Int.fdiv bits3 (2 ^ (min (Int.toNat (IntKind.i64.wrap (8 * a42))) IntKind.u64.bits))))) w).bind fun w_14 =>
  rec s1 bits3 pad4 n5 (IntKind.i64.wrap (a42 + 1)) w_14) else none) else none) else (some ((), w))
noncomputable def digest_state_end_l1 (K : Nat) (n : Nat) : Addr → Int → Addr → Int → Int → World → Option ((Unit) × World) := iter (fun _ _ _ _ _ _ => none) (digest_state_end_l1_b K) n
noncomputable def digest_state_end_l2_b (K : Nat) (rec : Addr → Sl → Array Value → Int → World → Option ((Sl × Unit) × World)) (s1 : Addr) (out7 : Sl) (a61 : Array Value) (a62 : Int) (w : World) : Option ((Sl × Unit) × World) :=
  if (decide (a62 < 8)) = true then (if (0 : Int) ≤ a62 ∧ a62 < ((8 : Nat) : Int) then ((a61[((Int.toNat a62) * 1)]?).bind fun v_22 =>
  (asI .u64 v_22).bind fun v_23 =>
  (ldI .i64 ((s1.add 0).add 2) w).bind fun v_24 =>
  bnd (digest_big K out7 v_23 v_24 w) fun r_25 w_26 =>
  rec s1 r_25.1 a61 (IntKind.i64.wrap (a62 + 1)) w_26) else none) else (some ((out7, ()), w))
noncomputable def digest_state_end_l2 (K : Nat) (n : Nat) : Addr → Sl → Array Value → Int → World → Option ((Sl × Unit) × World) := iter (fun _ _ _ _ _ => none) (digest_state_end_l2_b K) n
/-- (coffer/digest.state).end -/
noncomputable def digest_state_end (K : Nat) (s0 : Array Value) (w : World) : Option ((Sl × Unit) × World) :=
  bnd (newB s0 108 w) fun p_1 w_2 =>
  (ldI .u64 (p_1.add 5) w_2).bind fun v_3 =>
  bnd (newB z122 122 w_2) fun pad_4 w_5 =>
  (stC (pad_4.add (0 * 1)) (.int .u8 128) w_5).bind fun w_6 =>
  bnd (digest_state_end_l0 K K p_1 (IntKind.u64.wrap (v_3 * 8)) pad_4 1 w_6) fun y_11 w_12 =>
  (ldI .i64 ((p_1.add 0).add 2) w_12).bind fun v_13 =>
  bnd (digest_state_end_l1 K K p_1 (IntKind.u64.wrap (v_3 * 8)) pad_4 (IntKind.i64.wrap (y_11.1 + (IntKind.i64.wrap (2 * v_13)))) 0 w_12) fun y_15 w_16 =>
  if (0 : Int) ≤ (IntKind.i64.wrap (y_11.1 + (IntKind.i64.wrap (2 * v_13)))) ∧ (IntKind.i64.wrap (y_11.1 + (IntKind.i64.wrap (2 * v_13)))) ≤ ((256 : Nat) : Int) then (bnd (digest_state_take K (some p_1) ⟨(sla (some pad_4) 0 256 1), ((Int.toNat ((IntKind.i64.wrap (y_11.1 + (IntKind.i64.wrap (2 * v_13)))))) - 0), (256 - 0)⟩ w_16) fun r_17 w_18 =>
  bnd (mkS prog 22 (.int .i64 0) (.int .i64 64) w_18) fun s_19 w_20 =>
  (ldA 8 (p_1.add 6) w_20).bind fun v_21 =>
  bnd (digest_state_end_l2 K K p_1 s_19 v_21 0 w_20) fun y_27 w_28 =>
  (ldI .i64 ((p_1.add 0).add 0) w_28).bind fun v_29 =>
  (ldI .i64 ((p_1.add 0).add 0) w_28).bind fun v_30 =>
  if (0 : Int) ≤ v_30 ∧ v_30 ≤ ((y_27.1.cap : Nat) : Int) then (if (0 : Int) ≤ v_29 ∧ v_29 ≤ (((Int.toNat (v_30)) : Nat) : Int) then (some ((⟨(sla y_27.1.a 0 (Int.toNat (v_30)) 1), ((Int.toNat (v_29)) - 0), ((Int.toNat (v_30)) - 0)⟩, ()), w_28)) else none) else none) else none
theorem digest_state_end_l0_ok (K : Nat) (n : Nat) : StmtNOk prog [(1, .addr), (3, .int .u64), (4, .addr), (5, .int .i64)] [(5, .int .i64)] [(5, 6), (14, 36)] ((fun n x w => digest_state_end_l0 K n x.1 x.2.1 x.2.2.1 x.2.2.2.1 w) n) (.block 0 (.loop (cd (bodyOf f66) [1, 1, 1, 1, 1, 0, 0, 0]))) :=
    mk_loopN (O := tabL []) (root := (bodyOf f66)) (π := [1, 1, 1, 1, 1, 0, 0, 0]) (id := 0) (Li := [(1, .addr), (3, .int .u64), (4, .addr), (5, .int .i64)]) (Lo := [(5, .int .i64)]) (S := (fun n x w => digest_state_end_l0 K n x.1 x.2.1 x.2.2.1 x.2.2.2.1 w)) (body := cd (bodyOf f66) [1, 1, 1, 1, 1, 0, 0, 0]) (digest_state_end_Eok K) (digest_state_end_Rok K) rfl (Orc.nil _ _ _) (by kernel_rfl) (fun _ _ => by kernel_rfl) (fun _ _ _ => by kernel_rfl) n
noncomputable def digest_state_end_l0_se (K : Nat) : SE := stmtN [(1, .addr), (3, .int .u64), (4, .addr), (5, .int .i64)] [(5, .int .i64)] [(5, 6), (14, 36)] (fun x w => digest_state_end_l0 K K x.1 x.2.1 x.2.2.1 x.2.2.2.1 w)
theorem digest_state_end_l0_se_ok (K : Nat) (R : Rg) (h : subRB [(5, 6), (14, 36)] R = true) : (digest_state_end_l0_se K).Ok prog R (.block 0 (.loop (cd (bodyOf f66) [1, 1, 1, 1, 1, 0, 0, 0]))) := stmtN_ok (Li := [(1, .addr), (3, .int .u64), (4, .addr), (5, .int .i64)]) (Lo := [(5, .int .i64)]) (S := (fun x w => digest_state_end_l0 K K x.1 x.2.1 x.2.2.1 x.2.2.2.1 w)) (digest_state_end_l0_ok K K) (subR_of h)
theorem digest_state_end_l1_ok (K : Nat) (n : Nat) : StmtNOk prog [(1, .addr), (3, .int .u64), (4, .addr), (5, .int .i64), (42, .int .i64)] [] [(6, 7), (42, 56)] ((fun n x w => digest_state_end_l1 K n x.1 x.2.1 x.2.2.1 x.2.2.2.1 x.2.2.2.2.1 w) n) (.block 2 (.loop (cd (bodyOf f66) [1, 1, 1, 1, 1, 1, 1, 0, 1, 0, 0]))) :=
    mk_loopN (O := tabL []) (root := (bodyOf f66)) (π := [1, 1, 1, 1, 1, 1, 1, 0, 1, 0, 0]) (id := 2) (Li := [(1, .addr), (3, .int .u64), (4, .addr), (5, .int .i64), (42, .int .i64)]) (Lo := []) (S := (fun n x w => digest_state_end_l1 K n x.1 x.2.1 x.2.2.1 x.2.2.2.1 x.2.2.2.2.1 w)) (body := cd (bodyOf f66) [1, 1, 1, 1, 1, 1, 1, 0, 1, 0, 0]) (digest_state_end_Eok K) (digest_state_end_Rok K) rfl (Orc.nil _ _ _) (by kernel_rfl) (fun _ _ => by kernel_rfl) (fun _ _ _ => by kernel_rfl) n
noncomputable def digest_state_end_l1_se (K : Nat) : SE := stmtN [(1, .addr), (3, .int .u64), (4, .addr), (5, .int .i64), (42, .int .i64)] [] [(6, 7), (42, 56)] (fun x w => digest_state_end_l1 K K x.1 x.2.1 x.2.2.1 x.2.2.2.1 x.2.2.2.2.1 w)
theorem digest_state_end_l1_se_ok (K : Nat) (R : Rg) (h : subRB [(6, 7), (42, 56)] R = true) : (digest_state_end_l1_se K).Ok prog R (.block 2 (.loop (cd (bodyOf f66) [1, 1, 1, 1, 1, 1, 1, 0, 1, 0, 0]))) := stmtN_ok (Li := [(1, .addr), (3, .int .u64), (4, .addr), (5, .int .i64), (42, .int .i64)]) (Lo := []) (S := (fun x w => digest_state_end_l1 K K x.1 x.2.1 x.2.2.1 x.2.2.2.1 x.2.2.2.2.1 w)) (digest_state_end_l1_ok K K) (subR_of h)
theorem digest_state_end_l2_ok (K : Nat) (n : Nat) : StmtNOk prog [(1, .addr), (7, .sl), (61, .agg), (62, .int .i64)] [(7, .sl)] [(7, 8), (9, 10), (62, 72)] ((fun n x w => digest_state_end_l2 K n x.1 x.2.1 x.2.2.1 x.2.2.2.1 w) n) (.block 4 (.loop (cd (bodyOf f66) [1, 1, 1, 1, 1, 1, 1, 1, 1, 1, 0, 1, 0, 0]))) :=
    mk_loopN (O := tabL []) (root := (bodyOf f66)) (π := [1, 1, 1, 1, 1, 1, 1, 1, 1, 1, 0, 1, 0, 0]) (id := 4) (Li := [(1, .addr), (7, .sl), (61, .agg), (62, .int .i64)]) (Lo := [(7, .sl)]) (S := (fun n x w => digest_state_end_l2 K n x.1 x.2.1 x.2.2.1 x.2.2.2.1 w)) (body := cd (bodyOf f66) [1, 1, 1, 1, 1, 1, 1, 1, 1, 1, 0, 1, 0, 0]) (digest_state_end_Eok K) (digest_state_end_Rok K) rfl (Orc.nil _ _ _) (by kernel_rfl) (fun _ _ => by kernel_rfl) (fun _ _ _ => by kernel_rfl) n
noncomputable def digest_state_end_l2_se (K : Nat) : SE := stmtN [(1, .addr), (7, .sl), (61, .agg), (62, .int .i64)] [(7, .sl)] [(7, 8), (9, 10), (62, 72)] (fun x w => digest_state_end_l2 K K x.1 x.2.1 x.2.2.1 x.2.2.2.1 w)
theorem digest_state_end_l2_se_ok (K : Nat) (R : Rg) (h : subRB [(7, 8), (9, 10), (62, 72)] R = true) : (digest_state_end_l2_se K).Ok prog R (.block 4 (.loop (cd (bodyOf f66) [1, 1, 1, 1, 1, 1, 1, 1, 1, 1, 0, 1, 0, 0]))) := stmtN_ok (Li := [(1, .addr), (7, .sl), (61, .agg), (62, .int .i64)]) (Lo := [(7, .sl)]) (S := (fun x w => digest_state_end_l2 K K x.1 x.2.1 x.2.2.1 x.2.2.2.1 w)) (digest_state_end_l2_ok K K) (subR_of h)
theorem digest_state_end_facts : FunFacts prog 66 f66 (bodyOf f66) [(0, .agg)] [(0, 80)] := ⟨func66, by kernel_rfl, by kernel_rfl, by kernel_rfl, by kernel_rfl, by kernel_rfl⟩
theorem digest_state_end_calls (K : Nat) (x : TT [(0, .agg)]) (w : World) (y : TR [.sl]) (w2 : World) (h : digest_state_end K x.1 w = some (y, w2)) : Calls prog 66 (encA [(0, .agg)] x).toArray w (fun e w3 => e = .returned (resV (encR [.sl] y)) ∧ w3 = w2) :=
    mk_fun (O := tabL [([1, 1, 1, 1, 1, 0], digest_state_end_l0_se K), ([1, 1, 1, 1, 1, 1, 1, 0, 1], digest_state_end_l1_se K), ([1, 1, 1, 1, 1, 1, 1, 1, 1, 1, 0, 1], digest_state_end_l2_se K)]) (Lp := [(0, .agg)]) (Rt := [.sl]) (S := (fun x w => digest_state_end K x.1 w)) (digest_state_end_Eok K) (digest_state_end_Rok K) rfl digest_state_end_facts (Orc.cons (by kernel_rfl) (digest_state_end_l0_se_ok K [(0, 80)] (by kernel_rfl)) (Orc.cons (by kernel_rfl) (digest_state_end_l1_se_ok K [(0, 80)] (by kernel_rfl)) (Orc.cons (by kernel_rfl) (digest_state_end_l2_se_ok K [(0, 80)] (by kernel_rfl)) (Orc.nil _ _ _)))) (fun _ _ => by kernel_rfl) x w y w2 h
noncomputable def digest_state_end_ce (K : Nat) : CE := funE [(0, .agg)] [.sl] (fun x w => digest_state_end K x.1 w)
theorem digest_state_end_ok (K : Nat) : (digest_state_end_ce K).Ok prog 66 := funE_ok (Rt := [.sl]) (S := (fun x w => digest_state_end K x.1 w)) digest_state_end_facts fun x w y w2 h => digest_state_end_calls K x w y w2 h

noncomputable def digest_key_E (K : Nat) : List (Nat × CE) := [(65, digest_begin_ce K), (59, digest_state_take_ce K), (66, digest_state_end_ce K)]
theorem digest_key_Eok (K : Nat) : Env.Ok prog (tab (digest_key_E K)) := (Env.cons (digest_begin_ok K) (Env.cons (digest_state_take_ok K) (Env.cons (digest_state_end_ok K) (Env.nil _))))
noncomputable def digest_key_R (K : Nat) : List (Nat × RE) := []
theorem digest_key_Rok (K : Nat) : REnv.Ok prog (tab (digest_key_R K)) := (REnv.nil _)
noncomputable def digest_key_s0 (K : Nat) (k1 : Sl) (s6 : Addr) (a26 : Bool) (w : World) : Option ((Sl × Unit) × World) :=
  if a26 = true then ((ldA 142 s6 w).bind fun v_12 =>
  bnd (newB z108 108 w) fun whole_13 w_14 =>
  if (v_12).size = 142 then ((stA whole_13 v_12 w_14).bind fun w_15 =>
  bnd (digest_state_take K (some whole_13) k1 w_15) fun r_16 w_17 =>
  (ldA 142 whole_13 w_17).bind fun v_18 =>
  bnd (digest_state_end K v_18 w_17) fun r_19 w_20 =>
  some ((r_19.1, ()), w_20)) else none) else (some ((k1, ()), w))
noncomputable def digest_key_l1_b (K : Nat) (rec : Addr → Addr → Addr → Addr → Addr → Int → World → Option ((Unit) × World)) (a4 : Addr) (s6 : Addr) (m9 : Addr) (in10 : Addr) (out11 : Addr) (a41 : Int) (w : World) : Option ((Unit) × World) :=
  if (decide (a41 < 128)) = true then (if (0 : Int) ≤ a41 ∧ a41 < ((128 : Nat) : Int) then ((ldI .u8 (in10.add ((Int.toNat a41) * 1)) w).bind fun v_37 =>
  if (0 : Int) ≤ a41 ∧ a41 < ((128 : Nat) : Int) then ((stC (in10.add ((Int.toNat a41) * 1)) (.int .u8 (bits .xor .u8 v_37 54)) w).bind fun w_38 =>
  if (0 : Int) ≤ a41 ∧ a41 < ((128 : Nat) : Int) then ((ldI .u8 (out11.add ((Int.toNat a41) * 1)) w_38).bind fun v_39 =>
  if (0 : Int) ≤ a41 ∧ a41 < ((128 : Nat) : Int) then ((stC (out11.add ((Int.toNat a41) * 1)) (.int .u8 (bits .xor .u8 v_39 92)) w_38).bind fun w_40 =>
  rec a4 s6 m9 in10 out11 (IntKind.i64.wrap (a41 + 1)) w_40) else none) else none) else none) else none) else (some ((), w))
noncomputable def digest_key_l1 (K : Nat) (n : Nat) : Addr → Addr → Addr → Addr → Addr → Int → World → Option ((Unit) × World) := iter (fun _ _ _ _ _ _ _ => none) (digest_key_l1_b K) n
/-- coffer/digest.key -/
noncomputable def digest_key (K : Nat) (hash0 : Int) (k1 : Sl) (w : World) : Option (((Array Value) × Bool × Unit) × World) :=
  bnd (newB z110 110 w) fun p_1 w_2 =>
  bnd (digest_begin K hash0 w_2) fun r_3 w_4 =>
  bnd (newB z108 108 w_4) fun s_5 w_6 =>
  if (r_3.1).size = 142 then ((stA s_5 r_3.1 w_6).bind fun w_7 =>
  if (!r_3.2.1) = true then ((prog.built 110 []).bind fun cs_8 =>
  if (cs_8).size = 284 then ((stA p_1 cs_8 w_7).bind fun w_9 =>
  (ldA 284 p_1 w_9).bind fun res_10 =>
  some ((res_10, false, ()), w_9)) else none) else ((ldI .i64 ((s_5.add 0).add 1) w_7).bind fun v_11 =>
  bnd (digest_key_s0 K k1 s_5 (decide (((k1.len : Nat) : Int) > v_11)) w_7) fun y_21 w_22 =>
  (ldA 142 s_5 w_22).bind fun v_23 =>
  (ldA 142 s_5 w_22).bind fun v_24 =>
  (prog.built 110 [(0, (.agg v_23)), (1, (.agg v_24))]).bind fun cs_25 =>
  bnd (newB z110 110 w_22) fun m_26 w_27 =>
  if (cs_25).size = 284 then ((stA m_26 cs_25 w_27).bind fun w_28 =>
  bnd (newB z106 106 w_28) fun in_29 w_30 =>
  bnd (newB z106 106 w_30) fun out_31 w_32 =>
  bnd (cpy prog 22 22 (.slice (sla (some in_29) 0 128 1) (128 - 0) (128 - 0)) (.slice y_21.1.a y_21.1.len y_21.1.cap) w_32) fun s_33 w_34 =>
  bnd (cpy prog 22 22 (.slice (sla (some out_31) 0 128 1) (128 - 0) (128 - 0)) (.slice y_21.1.a y_21.1.len y_21.1.cap) w_34) fun s_35 w_36 =>
  bnd (digest_key_l1 K K p_1 s_5 m_26 in_29 out_31 0 w_36) fun y_41 w_42 =>
  (ldI .i64 ((s_5.add 0).add 1) w_42).bind fun v_43 =>
  if (0 : Int) ≤ v_43 ∧ v_43 ≤ ((128 : Nat) : Int) then (bnd (digest_state_take K (some (m_26.add 0)) ⟨(sla (some in_29) 0 128 1), ((Int.toNat (v_43)) - 0), (128 - 0)⟩ w_42) fun r_44 w_45 =>
  (ldI .i64 ((s_5.add 0).add 1) w_45).bind fun v_46 =>
  if (0 : Int) ≤ v_46 ∧ v_46 ≤ ((128 : Nat) : Int) then (bnd (digest_state_take K (some (m_26.add 142)) ⟨(sla (some out_31) 0 128 1), ((Int.toNat (v_46)) - 0), (128 - 0)⟩ w_45) fun r_47 w_48 =>
  (ldA 284 m_26 w_48).bind fun v_49 =>
  if (v_49).size = 284 then ((stA p_1 v_49 w_48).bind fun w_50 =>
  (ldA 284 p_1 w_50).bind fun res_51 =>
  some ((res_51, true, ()), w_50)) else none) else none) else none) else none)) else none
theorem digest_key_s0_ok (K : Nat) : StmtNOk prog [(1, .sl), (6, .addr), (26, .bool)] [(1, .sl)] [(1, 2), (8, 9), (27, 32)] (fun x w => digest_key_s0 K x.1 x.2.1 x.2.2.1 w) (cd (bodyOf f57) [1, 1, 1, 0, 1]) :=
    mk_stmtN (O := tabL []) (root := (bodyOf f57)) (π := [1, 1, 1, 0, 1]) (Li := [(1, .sl), (6, .addr), (26, .bool)]) (Lo := [(1, .sl)]) (S := (fun x w => digest_key_s0 K x.1 x.2.1 x.2.2.1 w)) (digest_key_Eok K) (digest_key_Rok K) rfl (Orc.nil _ _ _) (by kernel_rfl) (fun _ _ => by kernel_rfl)
noncomputable def digest_key_s0_se (K : Nat) : SE := stmtN [(1, .sl), (6, .addr), (26, .bool)] [(1, .sl)] [(1, 2), (8, 9), (27, 32)] (fun x w => digest_key_s0 K x.1 x.2.1 x.2.2.1 w)
theorem digest_key_s0_se_ok (K : Nat) (R : Rg) (h : subRB [(1, 2), (8, 9), (27, 32)] R = true) : (digest_key_s0_se K).Ok prog R (cd (bodyOf f57) [1, 1, 1, 0, 1]) := stmtN_ok (Li := [(1, .sl), (6, .addr), (26, .bool)]) (Lo := [(1, .sl)]) (S := (fun x w => digest_key_s0 K x.1 x.2.1 x.2.2.1 w)) (digest_key_s0_ok K) (subR_of h)
theorem digest_key_l1_ok (K : Nat) (n : Nat) : StmtNOk prog [(4, .addr), (6, .addr), (9, .addr), (10, .addr), (11, .addr), (41, .int .i64)] [] [(12, 13), (41, 55)] ((fun n x w => digest_key_l1 K n x.1 x.2.1 x.2.2.1 x.2.2.2.1 x.2.2.2.2.1 x.2.2.2.2.2.1 w) n) (.block 0 (.loop (cd (bodyOf f57) [1, 1, 1, 1, 1, 1, 1, 1, 0, 1, 0, 0]))) :=
    mk_loopN (O := tabL []) (root := (bodyOf f57)) (π := [1, 1, 1, 1, 1, 1, 1, 1, 0, 1, 0, 0]) (id := 0) (Li := [(4, .addr), (6, .addr), (9, .addr), (10, .addr), (11, .addr), (41, .int .i64)]) (Lo := []) (S := (fun n x w => digest_key_l1 K n x.1 x.2.1 x.2.2.1 x.2.2.2.1 x.2.2.2.2.1 x.2.2.2.2.2.1 w)) (body := cd (bodyOf f57) [1, 1, 1, 1, 1, 1, 1, 1, 0, 1, 0, 0]) (digest_key_Eok K) (digest_key_Rok K) rfl (Orc.nil _ _ _) (by kernel_rfl) (fun _ _ => by kernel_rfl) (fun _ _ _ => by kernel_rfl) n
noncomputable def digest_key_l1_se (K : Nat) : SE := stmtN [(4, .addr), (6, .addr), (9, .addr), (10, .addr), (11, .addr), (41, .int .i64)] [] [(12, 13), (41, 55)] (fun x w => digest_key_l1 K K x.1 x.2.1 x.2.2.1 x.2.2.2.1 x.2.2.2.2.1 x.2.2.2.2.2.1 w)
theorem digest_key_l1_se_ok (K : Nat) (R : Rg) (h : subRB [(12, 13), (41, 55)] R = true) : (digest_key_l1_se K).Ok prog R (.block 0 (.loop (cd (bodyOf f57) [1, 1, 1, 1, 1, 1, 1, 1, 0, 1, 0, 0]))) := stmtN_ok (Li := [(4, .addr), (6, .addr), (9, .addr), (10, .addr), (11, .addr), (41, .int .i64)]) (Lo := []) (S := (fun x w => digest_key_l1 K K x.1 x.2.1 x.2.2.1 x.2.2.2.1 x.2.2.2.2.1 x.2.2.2.2.2.1 w)) (digest_key_l1_ok K K) (subR_of h)
theorem digest_key_facts : FunFacts prog 57 f57 (bodyOf f57) [(0, .int .i64), (1, .sl)] [(0, 68)] := ⟨func57, by kernel_rfl, by kernel_rfl, by kernel_rfl, by kernel_rfl, by kernel_rfl⟩
theorem digest_key_calls (K : Nat) (x : TT [(0, .int .i64), (1, .sl)]) (w : World) (y : TR [.agg, .bool]) (w2 : World) (h : digest_key K x.1 x.2.1 w = some (y, w2)) : Calls prog 57 (encA [(0, .int .i64), (1, .sl)] x).toArray w (fun e w3 => e = .returned (resV (encR [.agg, .bool] y)) ∧ w3 = w2) :=
    mk_fun (O := tabL [([1, 1, 1, 0, 1], digest_key_s0_se K), ([1, 1, 1, 1, 1, 1, 1, 1, 0, 1], digest_key_l1_se K)]) (Lp := [(0, .int .i64), (1, .sl)]) (Rt := [.agg, .bool]) (S := (fun x w => digest_key K x.1 x.2.1 w)) (digest_key_Eok K) (digest_key_Rok K) rfl digest_key_facts (Orc.cons (by kernel_rfl) (digest_key_s0_se_ok K [(0, 68)] (by kernel_rfl)) (Orc.cons (by kernel_rfl) (digest_key_l1_se_ok K [(0, 68)] (by kernel_rfl)) (Orc.nil _ _ _))) (fun _ _ => by kernel_rfl) x w y w2 h
noncomputable def digest_key_ce (K : Nat) : CE := funE [(0, .int .i64), (1, .sl)] [.agg, .bool] (fun x w => digest_key K x.1 x.2.1 w)
theorem digest_key_ok (K : Nat) : (digest_key_ce K).Ok prog 57 := funE_ok (Rt := [.agg, .bool]) (S := (fun x w => digest_key K x.1 x.2.1 w)) digest_key_facts fun x w y w2 h => digest_key_calls K x w y w2 h

noncomputable def digest_NewMac_E (K : Nat) : List (Nat × CE) := [(16, digest_Size_ce), (57, digest_key_ce K)]
theorem digest_NewMac_Eok (K : Nat) : Env.Ok prog (tab (digest_NewMac_E K)) := (Env.cons (digest_Size_ok) (Env.cons (digest_key_ok K) (Env.nil _)))
noncomputable def digest_NewMac_R (K : Nat) : List (Nat × RE) := []
theorem digest_NewMac_Rok (K : Nat) : REnv.Ok prog (tab (digest_NewMac_R K)) := (REnv.nil _)
/-- coffer/digest.NewMac -/
noncomputable def digest_NewMac (K : Nat) (hash0 : Int) (k1 : Sl) (w : World) : Option (((Option Addr) × Int × Unit) × World) :=
  bnd (digest_Size hash0 w) fun r_1 w_2 =>
  if (r_1.1 == 0) = true then (some ((none, 10, ()), w_2)) else (if (decide (((k1.len : Nat) : Int) > 33554432)) = true then (some ((none, 4, ()), w_2)) else (bnd (digest_key K hash0 k1 w_2) fun r_3 w_4 =>
  bnd (newB z110 110 w_4) fun m_5 w_6 =>
  if (r_3.1).size = 284 then ((stA m_5 r_3.1 w_6).bind fun w_7 =>
  (ldA 284 m_5 w_7).bind fun v_8 =>
  (ldA 284 m_5 w_7).bind fun v_9 =>
  (prog.built 114 [(0, (.agg v_8)), (1, (.agg v_9))]).bind fun cs_10 =>
  bnd (newB cs_10 114 w_7) fun p_11 w_12 =>
  some (((some p_11), 0, ()), w_12)) else none))
theorem digest_NewMac_facts : FunFacts prog 50 f50 (bodyOf f50) [(0, .int .i64), (1, .sl)] [(0, 24)] := ⟨func50, by kernel_rfl, by kernel_rfl, by kernel_rfl, by kernel_rfl, by kernel_rfl⟩
theorem digest_NewMac_calls (K : Nat) (x : TT [(0, .int .i64), (1, .sl)]) (w : World) (y : TR [.ptr, .int .i64]) (w2 : World) (h : digest_NewMac K x.1 x.2.1 w = some (y, w2)) : Calls prog 50 (encA [(0, .int .i64), (1, .sl)] x).toArray w (fun e w3 => e = .returned (resV (encR [.ptr, .int .i64] y)) ∧ w3 = w2) :=
    mk_fun (O := tabL []) (Lp := [(0, .int .i64), (1, .sl)]) (Rt := [.ptr, .int .i64]) (S := (fun x w => digest_NewMac K x.1 x.2.1 w)) (digest_NewMac_Eok K) (digest_NewMac_Rok K) rfl digest_NewMac_facts (Orc.nil _ _ _) (fun _ _ => by kernel_rfl) x w y w2 h
noncomputable def digest_NewMac_ce (K : Nat) : CE := funE [(0, .int .i64), (1, .sl)] [.ptr, .int .i64] (fun x w => digest_NewMac K x.1 x.2.1 w)
theorem digest_NewMac_ok (K : Nat) : (digest_NewMac_ce K).Ok prog 50 := funE_ok (Rt := [.ptr, .int .i64]) (S := (fun x w => digest_NewMac K x.1 x.2.1 w)) digest_NewMac_facts fun x w y w2 h => digest_NewMac_calls K x w y w2 h

noncomputable def digest_total_R (K : Nat) : List (Nat × RE) := []
theorem digest_total_Rok (K : Nat) : REnv.Ok prog (tab (digest_total_R K)) := (REnv.nil _)
noncomputable def digest_total_l0_b (K : Nat) (w : World) (rec : Int → Sl → Int → Int → Option (Out (Int × Unit) (Int × Unit))) (n3 : Int) (a6 : Sl) (a7 : Int) (a8 : Int) : Option (Out (Int × Unit) (Int × Unit)) :=
  if (decide (a8 < a7)) = true then ((a6.a).bind fun p_1 =>
  if (0 : Int) ≤ a8 ∧ a8 < ((a6.len : Nat) : Int) then ((ldS (p_1.add ((Int.toNat a8) * 1)) w).bind fun v_2 =>
  if (decide ((IntKind.i64.wrap (n3 + ((v_2.len : Nat) : Int))) > 33554432)) = true then (some (.norm ((IntKind.i64.wrap (n3 + ((v_2.len : Nat) : Int))), ()))) else (rec (IntKind.i64.wrap (n3 + ((v_2.len : Nat) : Int))) a6 a7 (IntKind.i64.wrap (a8 + 1)))) else none) else (some (.norm (n3, ())))
noncomputable def digest_total_l0 (K : Nat) (n : Nat) (n3 : Int) (a6 : Sl) (a7 : Int) (a8 : Int) (w : World) : Option (Out (Int × Unit) (Int × Unit)) := iter (α := Int → Sl → Int → Int → Option (Out (Int × Unit) (Int × Unit))) (fun _ _ _ _ => none) (digest_total_l0_b K w) n n3 a6 a7 a8
/-- coffer/digest.total -/
noncomputable def digest_total (K : Nat) (parts0 : Sl) (w : World) : Option (Int × Unit) :=
  (digest_total_l0 K K 0 parts0 ((parts0.len : Nat) : Int) 0 w).bind fun y_3 =>
  (match y_3 with
  | .norm z_4n => (some (z_4n.1, ()))
  | .ret z_4r => (some (z_4r.1, ())))
theorem digest_total_l0_ok (K : Nat) (n : Nat) : StmtQOk prog [(3, .int .i64), (6, .sl), (7, .int .i64), (8, .int .i64)] [(3, .int .i64)] [(2, .int .i64)] [(3, 4), (5, 6), (8, 19)] ((fun n x w => digest_total_l0 K n x.1 x.2.1 x.2.2.1 x.2.2.2.1 w) n) (.block 0 (.loop (cd (bodyOf f58) [1, 1, 0, 1, 0, 0]))) :=
    mk_loopQ (O := tabL []) (root := (bodyOf f58)) (π := [1, 1, 0, 1, 0, 0]) (id := 0) (Li := [(3, .int .i64), (6, .sl), (7, .int .i64), (8, .int .i64)]) (Lo := [(3, .int .i64)]) (Lr := [(2, .int .i64)]) (S := (fun n x w => digest_total_l0 K n x.1 x.2.1 x.2.2.1 x.2.2.2.1 w)) (body := cd (bodyOf f58) [1, 1, 0, 1, 0, 0]) (digest_total_Rok K) (OrcQ.nil _ _ _) (by kernel_rfl) (fun _ _ => by kernel_rfl) (fun _ _ _ => by kernel_rfl) n
noncomputable def digest_total_l0_se (K : Nat) : SQ := stmtQ [(3, .int .i64), (6, .sl), (7, .int .i64), (8, .int .i64)] [(3, .int .i64)] [(2, .int .i64)] [(3, 4), (5, 6), (8, 19)] (fun x w => digest_total_l0 K K x.1 x.2.1 x.2.2.1 x.2.2.2.1 w)
theorem digest_total_l0_se_ok (K : Nat) (R : Rg) (h : subRB [(3, 4), (5, 6), (8, 19)] R = true) : (digest_total_l0_se K).Ok prog R (.block 0 (.loop (cd (bodyOf f58) [1, 1, 0, 1, 0, 0]))) := stmtQ_ok (Li := [(3, .int .i64), (6, .sl), (7, .int .i64), (8, .int .i64)]) (Lo := [(3, .int .i64)]) (Lr := [(2, .int .i64)]) (S := (fun x w => digest_total_l0 K K x.1 x.2.1 x.2.2.1 x.2.2.2.1 w)) (digest_total_l0_ok K K) (subR_of h)
theorem digest_total_facts : FunFacts prog 58 f58 (bodyOf f58) [(0, .sl)] [(0, 20)] := ⟨func58, by kernel_rfl, by kernel_rfl, by kernel_rfl, by kernel_rfl, by kernel_rfl⟩
theorem digest_total_calls (K : Nat) (x : TT [(0, .sl)]) (w : World) (y : TR [.int .i64]) (h : digest_total K x.1 w = some y) : Calls prog 58 (encA [(0, .sl)] x).toArray w (fun e w3 => e = .returned (resV (encR [.int .i64] y)) ∧ w3 = w) :=
    mk_funQ (O := tabL [([1, 1, 0, 1], digest_total_l0_se K)]) (Lp := [(0, .sl)]) (Rt := [.int .i64]) (S := (fun x w => digest_total K x.1 w)) (digest_total_Rok K) digest_total_facts (OrcQ.cons (by kernel_rfl) (digest_total_l0_se_ok K [(0, 20)] (by kernel_rfl)) (OrcQ.nil _ _ _)) (fun _ _ => by kernel_rfl) x w y h
noncomputable def digest_total_re (K : Nat) : RE := funR [(0, .sl)] [.int .i64] (fun x w => digest_total K x.1 w)
theorem digest_total_ok (K : Nat) : (digest_total_re K).Ok prog 58 := funR_ok (Rt := [.int .i64]) (S := (fun x w => digest_total K x.1 w)) digest_total_facts fun x w y h => digest_total_calls K x w y h

noncomputable def digest_Mac_Write_E (K : Nat) : List (Nat × CE) := [(59, digest_state_take_ce K)]
theorem digest_Mac_Write_Eok (K : Nat) : Env.Ok prog (tab (digest_Mac_Write_E K)) := (Env.cons (digest_state_take_ok K) (Env.nil _))
noncomputable def digest_Mac_Write_R (K : Nat) : List (Nat × RE) := [(58, digest_total_re K)]
theorem digest_Mac_Write_Rok (K : Nat) : REnv.Ok prog (tab (digest_Mac_Write_R K)) := (REnv.cons (digest_total_ok K) (REnv.nil _))
noncomputable def digest_Mac_Write_l0_b (K : Nat) (rec : Option Addr → Sl → Int → Int → World → Option ((Unit) × World)) (m0 : Option Addr) (a29 : Sl) (a30 : Int) (a31 : Int) (w : World) : Option ((Unit) × World) :=
  if (decide (a31 < a30)) = true then ((a29.a).bind fun p_6 =>
  if (0 : Int) ≤ a31 ∧ a31 < ((a29.len : Nat) : Int) then ((ldS (p_6.add ((Int.toNat a31) * 1)) w).bind fun v_7 =>
  (m0).bind fun p_8 =>
  bnd (digest_state_take K (some ((p_8.add 0).add 0)) v_7 w) fun r_9 w_10 =>
  rec m0 a29 a30 (IntKind.i64.wrap (a31 + 1)) w_10) else none) else (some ((), w))
noncomputable def digest_Mac_Write_l0 (K : Nat) (n : Nat) : Option Addr → Sl → Int → Int → World → Option ((Unit) × World) := iter (fun _ _ _ _ _ => none) (digest_Mac_Write_l0_b K) n
/-- (*coffer/digest.Mac).Write -/
noncomputable def digest_Mac_Write (K : Nat) (m0 : Option Addr) (parts1 : Sl) (w : World) : Option ((Int × Unit) × World) :=
  if m0.isNone = true then (some ((1, ()), w)) else ((m0).bind fun p_1 =>
  (m0).bind fun p_2 =>
  (ldI .u64 (((p_1.add 0).add 0).add 5) w.drew).bind fun v_3 =>
  (ldI .i64 ((((p_2.add 0).add 0).add 0).add 1) w.drew).bind fun v_4 =>
  (digest_total K parts1 w.drew).bind fun r_5 =>
  if (decide ((IntKind.u64.wrap ((IntKind.u64.wrap (v_3 - (IntKind.u64.wrap v_4))) + (IntKind.u64.wrap r_5.1))) > 33554432)) = true then (some ((4, ()), w.drew)) else (bnd (digest_Mac_Write_l0 K K m0 parts1 ((parts1.len : Nat) : Int) 0 w.drew) fun y_11 w_12 =>
  some ((0, ()), w_12)))
theorem digest_Mac_Write_l0_ok (K : Nat) (n : Nat) : StmtNOk prog [(0, .ptr), (29, .sl), (30, .int .i64), (31, .int .i64)] [] [(6, 7), (31, 42)] ((fun n x w => digest_Mac_Write_l0 K n x.1 x.2.1 x.2.2.1 x.2.2.2.1 w) n) (.block 0 (.loop (cd (bodyOf f51) [1, 1, 1, 0, 1, 0, 0]))) :=
    mk_loopN (O := tabL []) (root := (bodyOf f51)) (π := [1, 1, 1, 0, 1, 0, 0]) (id := 0) (Li := [(0, .ptr), (29, .sl), (30, .int .i64), (31, .int .i64)]) (Lo := []) (S := (fun n x w => digest_Mac_Write_l0 K n x.1 x.2.1 x.2.2.1 x.2.2.2.1 w)) (body := cd (bodyOf f51) [1, 1, 1, 0, 1, 0, 0]) (digest_Mac_Write_Eok K) (digest_Mac_Write_Rok K) rfl (Orc.nil _ _ _) (by kernel_rfl) (fun _ _ => by kernel_rfl) (fun _ _ _ => by kernel_rfl) n
noncomputable def digest_Mac_Write_l0_se (K : Nat) : SE := stmtN [(0, .ptr), (29, .sl), (30, .int .i64), (31, .int .i64)] [] [(6, 7), (31, 42)] (fun x w => digest_Mac_Write_l0 K K x.1 x.2.1 x.2.2.1 x.2.2.2.1 w)
theorem digest_Mac_Write_l0_se_ok (K : Nat) (R : Rg) (h : subRB [(6, 7), (31, 42)] R = true) : (digest_Mac_Write_l0_se K).Ok prog R (.block 0 (.loop (cd (bodyOf f51) [1, 1, 1, 0, 1, 0, 0]))) := stmtN_ok (Li := [(0, .ptr), (29, .sl), (30, .int .i64), (31, .int .i64)]) (Lo := []) (S := (fun x w => digest_Mac_Write_l0 K K x.1 x.2.1 x.2.2.1 x.2.2.2.1 w)) (digest_Mac_Write_l0_ok K K) (subR_of h)
theorem digest_Mac_Write_facts : FunFacts prog 51 f51 (bodyOf f51) [(0, .ptr), (1, .sl)] [(0, 42)] := ⟨func51, by kernel_rfl, by kernel_rfl, by kernel_rfl, by kernel_rfl, by kernel_rfl⟩
theorem digest_Mac_Write_calls (K : Nat) (x : TT [(0, .ptr), (1, .sl)]) (w : World) (y : TR [.int .i64]) (w2 : World) (h : digest_Mac_Write K x.1 x.2.1 w = some (y, w2)) : Calls prog 51 (encA [(0, .ptr), (1, .sl)] x).toArray w (fun e w3 => e = .returned (resV (encR [.int .i64] y)) ∧ w3 = w2) :=
    mk_fun (O := tabL [([1, 1, 1, 0, 1], digest_Mac_Write_l0_se K)]) (Lp := [(0, .ptr), (1, .sl)]) (Rt := [.int .i64]) (S := (fun x w => digest_Mac_Write K x.1 x.2.1 w)) (digest_Mac_Write_Eok K) (digest_Mac_Write_Rok K) rfl digest_Mac_Write_facts (Orc.cons (by kernel_rfl) (digest_Mac_Write_l0_se_ok K [(0, 42)] (by kernel_rfl)) (Orc.nil _ _ _)) (fun _ _ => by kernel_rfl) x w y w2 h
noncomputable def digest_Mac_Write_ce (K : Nat) : CE := funE [(0, .ptr), (1, .sl)] [.int .i64] (fun x w => digest_Mac_Write K x.1 x.2.1 w)
theorem digest_Mac_Write_ok (K : Nat) : (digest_Mac_Write_ce K).Ok prog 51 := funE_ok (Rt := [.int .i64]) (S := (fun x w => digest_Mac_Write K x.1 x.2.1 w)) digest_Mac_Write_facts fun x w y w2 h => digest_Mac_Write_calls K x w y w2 h

noncomputable def digest_keyed_end_E (K : Nat) : List (Nat × CE) := [(66, digest_state_end_ce K), (59, digest_state_take_ce K)]
theorem digest_keyed_end_Eok (K : Nat) : Env.Ok prog (tab (digest_keyed_end_E K)) := (Env.cons (digest_state_end_ok K) (Env.cons (digest_state_take_ok K) (Env.nil _)))
noncomputable def digest_keyed_end_R (K : Nat) : List (Nat × RE) := []
theorem digest_keyed_end_Rok (K : Nat) : REnv.Ok prog (tab (digest_keyed_end_R K)) := (REnv.nil _)
/-- (coffer/digest.keyed).end -/
noncomputable def digest_keyed_end (K : Nat) (m0 : Array Value) (w : World) : Option ((Sl × Unit) × World) :=
  bnd (newB m0 110 w) fun p_1 w_2 =>
  (ldA 142 (p_1.add 0) w_2).bind fun v_3 =>
  bnd (digest_state_end K v_3 w_2) fun r_4 w_5 =>
  bnd (digest_state_take K (some (p_1.add 142)) r_4.1 w_5) fun r_6 w_7 =>
  (ldA 142 (p_1.add 142) w_7).bind fun v_8 =>
  bnd (digest_state_end K v_8 w_7) fun r_9 w_10 =>
  some ((r_9.1, ()), w_10)
theorem digest_keyed_end_facts : FunFacts prog 60 f60 (bodyOf f60) [(0, .agg)] [(0, 11)] := ⟨func60, by kernel_rfl, by kernel_rfl, by kernel_rfl, by kernel_rfl, by kernel_rfl⟩
theorem digest_keyed_end_calls (K : Nat) (x : TT [(0, .agg)]) (w : World) (y : TR [.sl]) (w2 : World) (h : digest_keyed_end K x.1 w = some (y, w2)) : Calls prog 60 (encA [(0, .agg)] x).toArray w (fun e w3 => e = .returned (resV (encR [.sl] y)) ∧ w3 = w2) :=
    mk_fun (O := tabL []) (Lp := [(0, .agg)]) (Rt := [.sl]) (S := (fun x w => digest_keyed_end K x.1 w)) (digest_keyed_end_Eok K) (digest_keyed_end_Rok K) rfl digest_keyed_end_facts (Orc.nil _ _ _) (fun _ _ => by kernel_rfl) x w y w2 h
noncomputable def digest_keyed_end_ce (K : Nat) : CE := funE [(0, .agg)] [.sl] (fun x w => digest_keyed_end K x.1 w)
theorem digest_keyed_end_ok (K : Nat) : (digest_keyed_end_ce K).Ok prog 60 := funE_ok (Rt := [.sl]) (S := (fun x w => digest_keyed_end K x.1 w)) digest_keyed_end_facts fun x w y w2 h => digest_keyed_end_calls K x w y w2 h

noncomputable def digest_Mac_Sum_E (K : Nat) : List (Nat × CE) := [(60, digest_keyed_end_ce K)]
theorem digest_Mac_Sum_Eok (K : Nat) : Env.Ok prog (tab (digest_Mac_Sum_E K)) := (Env.cons (digest_keyed_end_ok K) (Env.nil _))
noncomputable def digest_Mac_Sum_R (K : Nat) : List (Nat × RE) := []
theorem digest_Mac_Sum_Rok (K : Nat) : REnv.Ok prog (tab (digest_Mac_Sum_R K)) := (REnv.nil _)
/-- (*coffer/digest.Mac).Sum -/
noncomputable def digest_Mac_Sum (K : Nat) (m0 : Option Addr) (w : World) : Option ((Sl × Unit) × World) :=
  if m0.isNone = true then (some ((⟨none, 0, 0⟩, ()), w)) else ((m0).bind fun p_1 =>
  (ldA 284 (p_1.add 0) w).bind fun v_2 =>
  bnd (digest_keyed_end K v_2 w) fun r_3 w_4 =>
  some ((r_3.1, ()), w_4))
theorem digest_Mac_Sum_facts : FunFacts prog 52 f52 (bodyOf f52) [(0, .ptr)] [(0, 10)] := ⟨func52, by kernel_rfl, by kernel_rfl, by kernel_rfl, by kernel_rfl, by kernel_rfl⟩
theorem digest_Mac_Sum_calls (K : Nat) (x : TT [(0, .ptr)]) (w : World) (y : TR [.sl]) (w2 : World) (h : digest_Mac_Sum K x.1 w = some (y, w2)) : Calls prog 52 (encA [(0, .ptr)] x).toArray w (fun e w3 => e = .returned (resV (encR [.sl] y)) ∧ w3 = w2) :=
    mk_fun (O := tabL []) (Lp := [(0, .ptr)]) (Rt := [.sl]) (S := (fun x w => digest_Mac_Sum K x.1 w)) (digest_Mac_Sum_Eok K) (digest_Mac_Sum_Rok K) rfl digest_Mac_Sum_facts (Orc.nil _ _ _) (fun _ _ => by kernel_rfl) x w y w2 h
noncomputable def digest_Mac_Sum_ce (K : Nat) : CE := funE [(0, .ptr)] [.sl] (fun x w => digest_Mac_Sum K x.1 w)
theorem digest_Mac_Sum_ok (K : Nat) : (digest_Mac_Sum_ce K).Ok prog 52 := funE_ok (Rt := [.sl]) (S := (fun x w => digest_Mac_Sum K x.1 w)) digest_Mac_Sum_facts fun x w y w2 h => digest_Mac_Sum_calls K x w y w2 h

noncomputable def digest_Code_E (K : Nat) : List (Nat × CE) := [(50, digest_NewMac_ce K), (51, digest_Mac_Write_ce K), (52, digest_Mac_Sum_ce K)]
theorem digest_Code_Eok (K : Nat) : Env.Ok prog (tab (digest_Code_E K)) := (Env.cons (digest_NewMac_ok K) (Env.cons (digest_Mac_Write_ok K) (Env.cons (digest_Mac_Sum_ok K) (Env.nil _))))
noncomputable def digest_Code_R (K : Nat) : List (Nat × RE) := []
theorem digest_Code_Rok (K : Nat) : REnv.Ok prog (tab (digest_Code_R K)) := (REnv.nil _)
noncomputable def digest_Code_s0 (K : Nat) (parts2 : Sl) (m8 : Option Addr) (e9 : Int) (a17 : Bool) (w : World) : Option ((Int × Unit) × World) :=
  if a17 = true then (bnd (digest_Mac_Write K m8 parts2 w) fun r_3 w_4 =>
  some ((r_3.1, ()), w_4)) else (some ((e9, ()), w))
/-- coffer/digest.Code -/
noncomputable def digest_Code (K : Nat) (hash0 : Int) (k1 : Sl) (parts2 : Sl) (w : World) : Option ((Sl × Int × Unit) × World) :=
  bnd (digest_NewMac K hash0 k1 w) fun r_1 w_2 =>
  bnd (digest_Code_s0 K parts2 r_1.1 r_1.2.1 (r_1.2.1 == 0) w_2) fun y_5 w_6 =>
  if (y_5.1 != 0) = true then (some ((⟨none, 0, 0⟩, y_5.1, ()), w_6)) else (bnd (digest_Mac_Sum K r_1.1 w_6) fun r_7 w_8 =>
  some ((r_7.1, 0, ()), w_8))
theorem digest_Code_s0_ok (K : Nat) : StmtNOk prog [(2, .sl), (8, .ptr), (9, .int .i64), (17, .bool)] [(9, .int .i64)] [(9, 10), (18, 21)] (fun x w => digest_Code_s0 K x.1 x.2.1 x.2.2.1 x.2.2.2.1 w) (cd (bodyOf f41) [1, 1, 0, 1]) :=
    mk_stmtN (O := tabL []) (root := (bodyOf f41)) (π := [1, 1, 0, 1]) (Li := [(2, .sl), (8, .ptr), (9, .int .i64), (17, .bool)]) (Lo := [(9, .int .i64)]) (S := (fun x w => digest_Code_s0 K x.1 x.2.1 x.2.2.1 x.2.2.2.1 w)) (digest_Code_Eok K) (digest_Code_Rok K) rfl (Orc.nil _ _ _) (by kernel_rfl) (fun _ _ => by kernel_rfl)
noncomputable def digest_Code_s0_se (K : Nat) : SE := stmtN [(2, .sl), (8, .ptr), (9, .int .i64), (17, .bool)] [(9, .int .i64)] [(9, 10), (18, 21)] (fun x w => digest_Code_s0 K x.1 x.2.1 x.2.2.1 x.2.2.2.1 w)
theorem digest_Code_s0_se_ok (K : Nat) (R : Rg) (h : subRB [(9, 10), (18, 21)] R = true) : (digest_Code_s0_se K).Ok prog R (cd (bodyOf f41) [1, 1, 0, 1]) := stmtN_ok (Li := [(2, .sl), (8, .ptr), (9, .int .i64), (17, .bool)]) (Lo := [(9, .int .i64)]) (S := (fun x w => digest_Code_s0 K x.1 x.2.1 x.2.2.1 x.2.2.2.1 w)) (digest_Code_s0_ok K) (subR_of h)
theorem digest_Code_facts : FunFacts prog 41 f41 (bodyOf f41) [(0, .int .i64), (1, .sl), (2, .sl)] [(0, 26)] := ⟨func41, by kernel_rfl, by kernel_rfl, by kernel_rfl, by kernel_rfl, by kernel_rfl⟩
theorem digest_Code_calls (K : Nat) (x : TT [(0, .int .i64), (1, .sl), (2, .sl)]) (w : World) (y : TR [.sl, .int .i64]) (w2 : World) (h : digest_Code K x.1 x.2.1 x.2.2.1 w = some (y, w2)) : Calls prog 41 (encA [(0, .int .i64), (1, .sl), (2, .sl)] x).toArray w (fun e w3 => e = .returned (resV (encR [.sl, .int .i64] y)) ∧ w3 = w2) :=
    mk_fun (O := tabL [([1, 1, 0, 1], digest_Code_s0_se K)]) (Lp := [(0, .int .i64), (1, .sl), (2, .sl)]) (Rt := [.sl, .int .i64]) (S := (fun x w => digest_Code K x.1 x.2.1 x.2.2.1 w)) (digest_Code_Eok K) (digest_Code_Rok K) rfl digest_Code_facts (Orc.cons (by kernel_rfl) (digest_Code_s0_se_ok K [(0, 26)] (by kernel_rfl)) (Orc.nil _ _ _)) (fun _ _ => by kernel_rfl) x w y w2 h
noncomputable def digest_Code_ce (K : Nat) : CE := funE [(0, .int .i64), (1, .sl), (2, .sl)] [.sl, .int .i64] (fun x w => digest_Code K x.1 x.2.1 x.2.2.1 w)
theorem digest_Code_ok (K : Nat) : (digest_Code_ce K).Ok prog 41 := funE_ok (Rt := [.sl, .int .i64]) (S := (fun x w => digest_Code K x.1 x.2.1 x.2.2.1 w)) digest_Code_facts fun x w y w2 h => digest_Code_calls K x w y w2 h

noncomputable def spring_Spring_code_E (K : Nat) : List (Nat × CE) := [(41, digest_Code_ce K)]
theorem spring_Spring_code_Eok (K : Nat) : Env.Ok prog (tab (spring_Spring_code_E K)) := (Env.cons (digest_Code_ok K) (Env.nil _))
noncomputable def spring_Spring_code_R (K : Nat) : List (Nat × RE) := []
theorem spring_Spring_code_Rok (K : Nat) : REnv.Ok prog (tab (spring_Spring_code_R K)) := (REnv.nil _)
/-- (*coffer/spring.Spring).code -/
noncomputable def spring_Spring_code (K : Nat) (s0 : Option Addr) (parts1 : Sl) (w : World) : Option ((Sl × Unit) × World) :=
  (s0).bind fun p_1 =>
  (s0).bind fun p_2 =>
  (ldI .i64 (p_1.add 0) w.drew).bind fun v_3 =>
  (ldS (p_2.add 3) w.drew).bind fun v_4 =>
  bnd (digest_Code K v_3 v_4 parts1 w.drew) fun r_5 w_6 =>
  some ((r_5.1, ()), w_6)
theorem spring_Spring_code_facts : FunFacts prog 23 f23 (bodyOf f23) [(0, .ptr), (1, .sl)] [(0, 21)] := ⟨func23, by kernel_rfl, by kernel_rfl, by kernel_rfl, by kernel_rfl, by kernel_rfl⟩
theorem spring_Spring_code_calls (K : Nat) (x : TT [(0, .ptr), (1, .sl)]) (w : World) (y : TR [.sl]) (w2 : World) (h : spring_Spring_code K x.1 x.2.1 w = some (y, w2)) : Calls prog 23 (encA [(0, .ptr), (1, .sl)] x).toArray w (fun e w3 => e = .returned (resV (encR [.sl] y)) ∧ w3 = w2) :=
    mk_fun (O := tabL []) (Lp := [(0, .ptr), (1, .sl)]) (Rt := [.sl]) (S := (fun x w => spring_Spring_code K x.1 x.2.1 w)) (spring_Spring_code_Eok K) (spring_Spring_code_Rok K) rfl spring_Spring_code_facts (Orc.nil _ _ _) (fun _ _ => by kernel_rfl) x w y w2 h
noncomputable def spring_Spring_code_ce (K : Nat) : CE := funE [(0, .ptr), (1, .sl)] [.sl] (fun x w => spring_Spring_code K x.1 x.2.1 w)
theorem spring_Spring_code_ok (K : Nat) : (spring_Spring_code_ce K).Ok prog 23 := funE_ok (Rt := [.sl]) (S := (fun x w => spring_Spring_code K x.1 x.2.1 w)) spring_Spring_code_facts fun x w y w2 h => spring_Spring_code_calls K x w y w2 h

noncomputable def spring_Spring_update_E (K : Nat) : List (Nat × CE) := [(21, slices_ContainsFunc_byte_byte_ce K), (23, spring_Spring_code_ce K)]
theorem spring_Spring_update_Eok (K : Nat) : Env.Ok prog (tab (spring_Spring_update_E K)) := (Env.cons (slices_ContainsFunc_byte_byte_ok K) (Env.cons (spring_Spring_code_ok K) (Env.nil _)))
noncomputable def spring_Spring_update_R (K : Nat) : List (Nat × RE) := []
theorem spring_Spring_update_Rok (K : Nat) : REnv.Ok prog (tab (spring_Spring_update_R K)) := (REnv.nil _)
noncomputable def spring_Spring_update_s1 (K : Nat) (some4 : Bool) (mark5 : Int) (w : World) : Option ((Bool × Unit) × World) :=
  if (mark5 == 1) = true then (some (((!some4), ()), w)) else (some ((false, ()), w))
noncomputable def spring_Spring_update_l0_b (K : Nat) (rec : Option Addr → Sl → Bool → Int → World → Option ((Out (Unit) (Unit)) × World)) (s0 : Option Addr) (parts1 : Sl) (some4 : Bool) (a8 : Int) (w : World) : Option ((Out (Unit) (Unit)) × World) :=
  if (decide (a8 < 2)) = true then (bnd (spring_Spring_update_s1 K some4 a8 w) fun y_3 w_4 =>
  if y_3.1 = true then (some (.ret (), w_4)) else ((s0).bind fun p_5 =>
  (ldS (p_5.add 4) w_4).bind fun v_6 =>
  bnd (bldS prog 22 1 #[(0, (.int .u8 a8))] w_4) fun s_7 w_8 =>
  bnd (bldS prog 32 2 #[(0, (.slice v_6.a v_6.len v_6.cap)), (1, (.slice s_7.a s_7.len s_7.cap))] w_8) fun s_9 w_10 =>
  bnd (apd prog 32 32 (.slice s_9.a s_9.len s_9.cap) (.slice parts1.a parts1.len parts1.cap) w_10) fun s_11 w_12 =>
  bnd (spring_Spring_code K s0 s_11 w_12) fun r_13 w_14 =>
  (s0).bind fun p_15 =>
  (stC (p_15.add 3) (.slice r_13.1.a r_13.1.len r_13.1.cap) w_14).bind fun w_16 =>
  (s0).bind fun p_17 =>
  (ldS (p_17.add 4) w_16).bind fun v_18 =>
  bnd (bldS prog 32 1 #[(0, (.slice v_18.a v_18.len v_18.cap))] w_16) fun s_19 w_20 =>
  bnd (spring_Spring_code K s0 s_19 w_20) fun r_21 w_22 =>
  (s0).bind fun p_23 =>
  (stC (p_23.add 4) (.slice r_21.1.a r_21.1.len r_21.1.cap) w_22).bind fun w_24 =>
  rec s0 parts1 some4 (IntKind.u8.wrap (a8 + 1)) w_24)) else (some (.norm (), w))
noncomputable def spring_Spring_update_l0 (K : Nat) (n : Nat) : Option Addr → Sl → Bool → Int → World → Option ((Out (Unit) (Unit)) × World) := iter (fun _ _ _ _ _ => none) (spring_Spring_update_l0_b K) n
/-- (*coffer/spring.Spring).update -/
noncomputable def spring_Spring_update (K : Nat) (s0 : Option Addr) (parts1 : Sl) (w : World) : Option ((Unit) × World) :=
  bnd (slices_ContainsFunc_byte_byte K parts1 (.func (.func 39) #[] #[]) w) fun r_1 w_2 =>
  bnd (spring_Spring_update_l0 K K s0 parts1 r_1.1 0 w_2) fun y_25 w_26 =>
  (match y_25 with
  | .norm z_27n => (some ((), w_26))
  | .ret z_27r => (some ((), w_26)))
theorem spring_Spring_update_s1_ok (K : Nat) : StmtNOk prog [(4, .bool), (5, .int .u8)] [(16, .bool)] [(11, 17)] (fun x w => spring_Spring_update_s1 K x.1 x.2.1 w) (cd (bodyOf f19) [1, 1, 0, 0, 1, 1, 0, 0, 1, 0, 0]) :=
    mk_stmtN (O := tabL []) (root := (bodyOf f19)) (π := [1, 1, 0, 0, 1, 1, 0, 0, 1, 0, 0]) (Li := [(4, .bool), (5, .int .u8)]) (Lo := [(16, .bool)]) (S := (fun x w => spring_Spring_update_s1 K x.1 x.2.1 w)) (spring_Spring_update_Eok K) (spring_Spring_update_Rok K) rfl (Orc.nil _ _ _) (by kernel_rfl) (fun _ _ => by kernel_rfl)
noncomputable def spring_Spring_update_s1_se (K : Nat) : SE := stmtN [(4, .bool), (5, .int .u8)] [(16, .bool)] [(11, 17)] (fun x w => spring_Spring_update_s1 K x.1 x.2.1 w)
theorem spring_Spring_update_s1_se_ok (K : Nat) (R : Rg) (h : subRB [(11, 17)] R = true) : (spring_Spring_update_s1_se K).Ok prog R (cd (bodyOf f19) [1, 1, 0, 0, 1, 1, 0, 0, 1, 0, 0]) := stmtN_ok (Li := [(4, .bool), (5, .int .u8)]) (Lo := [(16, .bool)]) (S := (fun x w => spring_Spring_update_s1 K x.1 x.2.1 w)) (spring_Spring_update_s1_ok K) (subR_of h)
theorem spring_Spring_update_l0_ok (K : Nat) (n : Nat) : StmtOk prog [(0, .ptr), (1, .sl), (4, .bool), (8, .int .u8)] [] [] [(5, 6), (8, 42)] ((fun n x w => spring_Spring_update_l0 K n x.1 x.2.1 x.2.2.1 x.2.2.2.1 w) n) (.block 0 (.loop (cd (bodyOf f19) [1, 1, 0, 0]))) :=
    mk_loop (O := tabL [([1, 1, 0, 0, 1, 1, 0, 0, 1, 0, 0], spring_Spring_update_s1_se K)]) (root := (bodyOf f19)) (π := [1, 1, 0, 0]) (id := 0) (Li := [(0, .ptr), (1, .sl), (4, .bool), (8, .int .u8)]) (Lo := []) (Lr := []) (S := (fun n x w => spring_Spring_update_l0 K n x.1 x.2.1 x.2.2.1 x.2.2.2.1 w)) (body := cd (bodyOf f19) [1, 1, 0, 0]) (spring_Spring_update_Eok K) (spring_Spring_update_Rok K) rfl (Orc.cons (by kernel_rfl) (spring_Spring_update_s1_se_ok K [(5, 6), (8, 42)] (by kernel_rfl)) (Orc.nil _ _ _)) (by kernel_rfl) (fun _ _ => by kernel_rfl) (fun _ _ _ => by kernel_rfl) n
noncomputable def spring_Spring_update_l0_se (K : Nat) : SE := stmt [(0, .ptr), (1, .sl), (4, .bool), (8, .int .u8)] [] [] [(5, 6), (8, 42)] (fun x w => spring_Spring_update_l0 K K x.1 x.2.1 x.2.2.1 x.2.2.2.1 w)
theorem spring_Spring_update_l0_se_ok (K : Nat) (R : Rg) (h : subRB [(5, 6), (8, 42)] R = true) : (spring_Spring_update_l0_se K).Ok prog R (.block 0 (.loop (cd (bodyOf f19) [1, 1, 0, 0]))) := stmt_ok (Li := [(0, .ptr), (1, .sl), (4, .bool), (8, .int .u8)]) (Lo := []) (Lr := []) (S := (fun x w => spring_Spring_update_l0 K K x.1 x.2.1 x.2.2.1 x.2.2.2.1 w)) (spring_Spring_update_l0_ok K K) (subR_of h)
theorem spring_Spring_update_facts : FunFacts prog 19 f19 (bodyOf f19) [(0, .ptr), (1, .sl)] [(0, 42)] := ⟨func19, by kernel_rfl, by kernel_rfl, by kernel_rfl, by kernel_rfl, by kernel_rfl⟩
theorem spring_Spring_update_calls (K : Nat) (x : TT [(0, .ptr), (1, .sl)]) (w : World) (y : TR []) (w2 : World) (h : spring_Spring_update K x.1 x.2.1 w = some (y, w2)) : Calls prog 19 (encA [(0, .ptr), (1, .sl)] x).toArray w (fun e w3 => e = .returned (resV (encR [] y)) ∧ w3 = w2) :=
    mk_fun (O := tabL [([1, 1], spring_Spring_update_l0_se K), ([1, 1, 0, 0, 1, 1, 0, 0, 1, 0, 0], spring_Spring_update_s1_se K)]) (Lp := [(0, .ptr), (1, .sl)]) (Rt := []) (S := (fun x w => spring_Spring_update K x.1 x.2.1 w)) (spring_Spring_update_Eok K) (spring_Spring_update_Rok K) rfl spring_Spring_update_facts (Orc.cons (by kernel_rfl) (spring_Spring_update_l0_se_ok K [(0, 42)] (by kernel_rfl)) (Orc.cons (by kernel_rfl) (spring_Spring_update_s1_se_ok K [(0, 42)] (by kernel_rfl)) (Orc.nil _ _ _))) (fun _ _ => by kernel_rfl) x w y w2 h
noncomputable def spring_Spring_update_ce (K : Nat) : CE := funE [(0, .ptr), (1, .sl)] [] (fun x w => spring_Spring_update K x.1 x.2.1 w)
theorem spring_Spring_update_ok (K : Nat) : (spring_Spring_update_ce K).Ok prog 19 := funE_ok (Rt := []) (S := (fun x w => spring_Spring_update K x.1 x.2.1 w)) spring_Spring_update_facts fun x w y w2 h => spring_Spring_update_calls K x w y w2 h

noncomputable def spring_New_E (K : Nat) : List (Nat × CE) := [(16, digest_Size_ce), (18, bytes_Repeat_ce K), (19, spring_Spring_update_ce K)]
theorem spring_New_Eok (K : Nat) : Env.Ok prog (tab (spring_New_E K)) := (Env.cons (digest_Size_ok) (Env.cons (bytes_Repeat_ok K) (Env.cons (spring_Spring_update_ok K) (Env.nil _))))
noncomputable def spring_New_R (K : Nat) : List (Nat × RE) := [(17, spring_fit_re)]
theorem spring_New_Rok (K : Nat) : REnv.Ok prog (tab (spring_New_R K)) := (REnv.cons (spring_fit_ok) (REnv.nil _))
noncomputable def spring_New_s1 (K : Nat) (limit1 : Int) (w : World) : Option ((Bool × Unit) × World) :=
  if (decide (limit1 < 1)) = true then (some ((true, ()), w)) else (some (((decide (limit1 > 16777216)), ()), w))
noncomputable def spring_New_s0 (K : Nat) (limit1 : Int) (entropy2 : Sl) (nonce3 : Sl) (personal4 : Sl) (size12 : Int) (w : World) : Option ((Out (Unit) ((Option Addr) × Int × Unit)) × World) :=
  if (size12 == 0) = true then (some (.ret (none, 10, ()), w)) else (bnd (spring_New_s1 K limit1 w) fun y_3 w_4 =>
  if y_3.1 = true then (some (.ret (none, 2, ()), w_4)) else ((spring_fit entropy2).bind fun r_5 =>
  if (!r_5.1) = true then (some (.ret (none, 60, ()), w_4)) else (if (decide (((nonce3.len : Nat) : Int) > 65536)) = true then (some (.ret (none, 4, ()), w_4)) else (if (decide (((personal4.len : Nat) : Int) > 65536)) = true then (some (.ret (none, 4, ()), w_4)) else (some (.norm (), w_4))))))
noncomputable def spring_New_s2 {β : Type} (K : Nat) (hash0 : Int) (limit1 : Int) (size12 : Int) (w : World) (k : (Addr × Unit) → World → Option β) : Option β :=
  allB [(bnd (mkS prog 22 (.int .i64 size12) (.int .i64 size12) w.drew) fun s_9 w_10 =>
  bnd (bldS prog 22 1 #[(0, (.int .u8 1))] w_10) fun s_11 w_12 =>
  bnd (bytes_Repeat K s_11 size12 w_12) fun r_13 w_14 =>
  (prog.built 56 [(0, (.int .i64 hash0)), (1, (.int .i64 limit1)), (3, (.slice s_9.a s_9.len s_9.cap)), (4, (.slice r_13.1.a r_13.1.len r_13.1.cap))]).bind fun cs_15 =>
  bnd (newB cs_15 56 w_14) fun p_16 w_17 =>
  k (p_16, ()) w_17),
   (bnd (bldS prog 22 1 #[(0, (.int .u8 1))] w.drew) fun s_18 w_19 =>
  allB [(bnd (mkS prog 22 (.int .i64 size12) (.int .i64 size12) w_19) fun s_20 w_21 =>
  bnd (bytes_Repeat K s_18 size12 w_21) fun r_22 w_23 =>
  (prog.built 56 [(0, (.int .i64 hash0)), (1, (.int .i64 limit1)), (3, (.slice s_20.a s_20.len s_20.cap)), (4, (.slice r_22.1.a r_22.1.len r_22.1.cap))]).bind fun cs_24 =>
  bnd (newB cs_24 56 w_23) fun p_25 w_26 =>
  k (p_25, ()) w_26),
   (bnd (bytes_Repeat K s_18 size12 w_19) fun r_27 w_28 =>
  bnd (mkS prog 22 (.int .i64 size12) (.int .i64 size12) w_28) fun s_29 w_30 =>
  (prog.built 56 [(0, (.int .i64 hash0)), (1, (.int .i64 limit1)), (3, (.slice s_29.a s_29.len s_29.cap)), (4, (.slice r_27.1.a r_27.1.len r_27.1.cap))]).bind fun cs_31 =>
  bnd (newB cs_31 56 w_30) fun p_32 w_33 =>
  k (p_32, ()) w_33)])]
/-- coffer/spring.New -/
noncomputable def spring_New {β : Type} (K : Nat) (hash0 : Int) (limit1 : Int) (entropy2 : Sl) (nonce3 : Sl) (personal4 : Sl) (w : World) (k : ((Option Addr) × Int × Unit) → World → Option β) : Option β :=
  bnd (digest_Size hash0 w) fun r_1 w_2 =>
  bnd (spring_New_s0 K limit1 entropy2 nonce3 personal4 r_1.1 w_2) fun y_6 w_7 =>
  (match y_6 with
  | .norm z_8n => (spring_New_s2 K hash0 limit1 r_1.1 w_7 fun y_34 w_35 =>
  bnd (bldS prog 32 3 #[(0, (.slice entropy2.a entropy2.len entropy2.cap)), (1, (.slice nonce3.a nonce3.len nonce3.cap)), (2, (.slice personal4.a personal4.len personal4.cap))] w_35) fun s_36 w_37 =>
  bnd (spring_Spring_update K (some y_34.1) s_36 w_37) fun r_38 w_39 =>
  k ((some y_34.1), 0, ()) w_39)
  | .ret z_8r => (k (z_8r.1, z_8r.2.1, ()) w_7))
theorem spring_New_s1_ok (K : Nat) : StmtNOk prog [(1, .int .i64)] [(19, .bool)] [(19, 26)] (fun x w => spring_New_s1 K x.1 w) (cd (bodyOf f6) [1, 1, 0, 0, 1, 1, 0]) :=
    mk_stmtN (O := tabL []) (root := (bodyOf f6)) (π := [1, 1, 0, 0, 1, 1, 0]) (Li := [(1, .int .i64)]) (Lo := [(19, .bool)]) (S := (fun x w => spring_New_s1 K x.1 w)) (spring_New_Eok K) (spring_New_Rok K) rfl (Orc.nil _ _ _) (by kernel_rfl) (fun _ _ => by kernel_rfl)
noncomputable def spring_New_s1_se (K : Nat) : SE := stmtN [(1, .int .i64)] [(19, .bool)] [(19, 26)] (fun x w => spring_New_s1 K x.1 w)
theorem spring_New_s1_se_ok (K : Nat) (R : Rg) (h : subRB [(19, 26)] R = true) : (spring_New_s1_se K).Ok prog R (cd (bodyOf f6) [1, 1, 0, 0, 1, 1, 0]) := stmtN_ok (Li := [(1, .int .i64)]) (Lo := [(19, .bool)]) (S := (fun x w => spring_New_s1 K x.1 w)) (spring_New_s1_ok K) (subR_of h)
theorem spring_New_s0_ok (K : Nat) : StmtOk prog [(1, .int .i64), (2, .sl), (3, .sl), (4, .sl), (12, .int .i64)] [] [(10, .ptr), (11, .int .i64)] [(10, 12), (16, 39)] (fun x w => spring_New_s0 K x.1 x.2.1 x.2.2.1 x.2.2.2.1 x.2.2.2.2.1 w) (cd (bodyOf f6) [1, 1, 0]) :=
    mk_stmt (O := tabL [([1, 1, 0, 0, 1, 1, 0], spring_New_s1_se K)]) (root := (bodyOf f6)) (π := [1, 1, 0]) (Li := [(1, .int .i64), (2, .sl), (3, .sl), (4, .sl), (12, .int .i64)]) (Lo := []) (Lr := [(10, .ptr), (11, .int .i64)]) (S := (fun x w => spring_New_s0 K x.1 x.2.1 x.2.2.1 x.2.2.2.1 x.2.2.2.2.1 w)) (spring_New_Eok K) (spring_New_Rok K) rfl (Orc.cons (by kernel_rfl) (spring_New_s1_se_ok K [(10, 12), (16, 39)] (by kernel_rfl)) (Orc.nil _ _ _)) (by kernel_rfl) (fun _ _ => by kernel_rfl)
noncomputable def spring_New_s0_se (K : Nat) : SE := stmt [(1, .int .i64), (2, .sl), (3, .sl), (4, .sl), (12, .int .i64)] [] [(10, .ptr), (11, .int .i64)] [(10, 12), (16, 39)] (fun x w => spring_New_s0 K x.1 x.2.1 x.2.2.1 x.2.2.2.1 x.2.2.2.2.1 w)
theorem spring_New_s0_se_ok (K : Nat) (R : Rg) (h : subRB [(10, 12), (16, 39)] R = true) : (spring_New_s0_se K).Ok prog R (cd (bodyOf f6) [1, 1, 0]) := stmt_ok (Li := [(1, .int .i64), (2, .sl), (3, .sl), (4, .sl), (12, .int .i64)]) (Lo := []) (Lr := [(10, .ptr), (11, .int .i64)]) (S := (fun x w => spring_New_s0 K x.1 x.2.1 x.2.2.1 x.2.2.2.1 x.2.2.2.2.1 w)) (spring_New_s0_ok K) (subR_of h)
theorem spring_New_s2_ok (K : Nat) : StmtCOk prog [(0, .int .i64), (1, .int .i64), (12, .int .i64)] [(13, .addr)] [(13, 14), (39, 48)] (fun {_} x w k => spring_New_s2 K x.1 x.2.1 x.2.2.1 w k) (cd (bodyOf f6) [1, 1, 1, 0]) :=
    mk_regionC (R := [(13, 14), (39, 48)]) (Li := [(0, .int .i64), (1, .int .i64), (12, .int .i64)]) (Lo := [(13, .addr)]) (S := (fun {_} x w k => spring_New_s2 K x.1 x.2.1 x.2.2.1 w k)) (spring_New_Eok K) (spring_New_Rok K) rfl (fun _ _ _ => by kernel_rfl)
noncomputable def spring_New_s2_se (K : Nat) : SE := stmtC [(0, .int .i64), (1, .int .i64), (12, .int .i64)] [(13, .addr)] [(13, 14), (39, 48)] (fun {_} x w k => spring_New_s2 K x.1 x.2.1 x.2.2.1 w k)
theorem spring_New_s2_se_ok (K : Nat) (R : Rg) (h : subRB [(13, 14), (39, 48)] R = true) : (spring_New_s2_se K).Ok prog R (cd (bodyOf f6) [1, 1, 1, 0]) := stmtC_ok (Li := [(0, .int .i64), (1, .int .i64), (12, .int .i64)]) (Lo := [(13, .addr)]) (S := (fun {_} x w k => spring_New_s2 K x.1 x.2.1 x.2.2.1 w k)) (spring_New_s2_ok K) (subR_of h)
theorem spring_New_facts : FunFacts prog 6 f6 (bodyOf f6) [(0, .int .i64), (1, .int .i64), (2, .sl), (3, .sl), (4, .sl)] [(0, 55)] := ⟨func6, by kernel_rfl, by kernel_rfl, by kernel_rfl, by kernel_rfl, by kernel_rfl⟩
theorem spring_New_calls (K : Nat) {β : Type} (x : TT [(0, .int .i64), (1, .int .i64), (2, .sl), (3, .sl), (4, .sl)]) (w : World) (k : TR [.ptr, .int .i64] → World → Option β) (r : β) (h : spring_New K x.1 x.2.1 x.2.2.1 x.2.2.2.1 x.2.2.2.2.1 w k = some r) : Calls prog 6 (encA [(0, .int .i64), (1, .int .i64), (2, .sl), (3, .sl), (4, .sl)] x).toArray w (fun e w3 => ∃ y, e = .returned (resV (encR [.ptr, .int .i64] y)) ∧ k y w3 = some r) :=
    mk_funC (O := tabL [([1, 1, 0], spring_New_s0_se K), ([1, 1, 0, 0, 1, 1, 0], spring_New_s1_se K), ([1, 1, 1, 0], spring_New_s2_se K)]) (Lp := [(0, .int .i64), (1, .int .i64), (2, .sl), (3, .sl), (4, .sl)]) (Rt := [.ptr, .int .i64]) (S := (fun x w k => spring_New K x.1 x.2.1 x.2.2.1 x.2.2.2.1 x.2.2.2.2.1 w k)) (spring_New_Eok K) (spring_New_Rok K) rfl spring_New_facts (Orc.cons (by kernel_rfl) (spring_New_s0_se_ok K [(0, 55)] (by kernel_rfl)) (Orc.cons (by kernel_rfl) (spring_New_s1_se_ok K [(0, 55)] (by kernel_rfl)) (Orc.cons (by kernel_rfl) (spring_New_s2_se_ok K [(0, 55)] (by kernel_rfl)) (Orc.nil _ _ _)))) (fun _ _ _ => by kernel_rfl) x w k r h
noncomputable def spring_New_ce (K : Nat) : CE := funC [(0, .int .i64), (1, .int .i64), (2, .sl), (3, .sl), (4, .sl)] [.ptr, .int .i64] (fun {_} x w k => spring_New K x.1 x.2.1 x.2.2.1 x.2.2.2.1 x.2.2.2.2.1 w k)
theorem spring_New_ok (K : Nat) : (spring_New_ce K).Ok prog 6 := funC_ok (Rt := [.ptr, .int .i64]) (S := (fun {_} x w k => spring_New K x.1 x.2.1 x.2.2.1 x.2.2.2.1 x.2.2.2.2.1 w k)) spring_New_facts fun x w k r h => spring_New_calls K x w k r h

noncomputable def law06_num_R : List (Nat × RE) := []
theorem law06_num_Rok : REnv.Ok prog (tab (law06_num_R)) := (REnv.nil _)
/-- coffer/cofferlaw06.num -/
noncomputable def law06_num (e0 : Int) : Option (Int × Unit) :=
  some (e0, ())
theorem law06_num_facts : FunFacts prog 7 f7 (bodyOf f7) [(0, .int .i64)] [(0, 4)] := ⟨func7, by kernel_rfl, by kernel_rfl, by kernel_rfl, by kernel_rfl, by kernel_rfl⟩
theorem law06_num_calls (x : TT [(0, .int .i64)]) (w : World) (y : TR [.int .i64]) (h : law06_num x.1 = some y) : Calls prog 7 (encA [(0, .int .i64)] x).toArray w (fun e w3 => e = .returned (resV (encR [.int .i64] y)) ∧ w3 = w) :=
    mk_funQ (O := tabL []) (Lp := [(0, .int .i64)]) (Rt := [.int .i64]) (S := (fun x w => law06_num x.1)) (law06_num_Rok) law06_num_facts (OrcQ.nil _ _ _) (fun _ _ => by kernel_rfl) x w y h
noncomputable def law06_num_re : RE := funR [(0, .int .i64)] [.int .i64] (fun x w => law06_num x.1)
theorem law06_num_ok : (law06_num_re).Ok prog 7 := funR_ok (Rt := [.int .i64]) (S := (fun x w => law06_num x.1)) law06_num_facts fun x w y h => law06_num_calls x w y h

noncomputable def spring_long_R (K : Nat) : List (Nat × RE) := []
theorem spring_long_Rok (K : Nat) : REnv.Ok prog (tab (spring_long_R K)) := (REnv.nil _)
noncomputable def spring_long_l0_b (K : Nat) (w : World) (rec : Int → Sl → Int → Int → Option (Out (Unit) (Bool × Unit))) (n3 : Int) (a6 : Sl) (a7 : Int) (a8 : Int) : Option (Out (Unit) (Bool × Unit)) :=
  if (decide (a8 < a7)) = true then ((a6.a).bind fun p_1 =>
  if (0 : Int) ≤ a8 ∧ a8 < ((a6.len : Nat) : Int) then ((ldS (p_1.add ((Int.toNat a8) * 1)) w).bind fun v_2 =>
  if (decide ((IntKind.i64.wrap (n3 + ((v_2.len : Nat) : Int))) > 65536)) = true then (some (.ret (true, ()))) else (rec (IntKind.i64.wrap (n3 + ((v_2.len : Nat) : Int))) a6 a7 (IntKind.i64.wrap (a8 + 1)))) else none) else (some (.norm ()))
noncomputable def spring_long_l0 (K : Nat) (n : Nat) (n3 : Int) (a6 : Sl) (a7 : Int) (a8 : Int) (w : World) : Option (Out (Unit) (Bool × Unit)) := iter (α := Int → Sl → Int → Int → Option (Out (Unit) (Bool × Unit))) (fun _ _ _ _ => none) (spring_long_l0_b K w) n n3 a6 a7 a8
/-- coffer/spring.long -/
noncomputable def spring_long (K : Nat) (parts0 : Sl) (w : World) : Option (Bool × Unit) :=
  (spring_long_l0 K K 0 parts0 ((parts0.len : Nat) : Int) 0 w).bind fun y_3 =>
  (match y_3 with
  | .norm z_4n => (some (false, ()))
  | .ret z_4r => (some (z_4r.1, ())))
theorem spring_long_l0_ok (K : Nat) (n : Nat) : StmtQOk prog [(3, .int .i64), (6, .sl), (7, .int .i64), (8, .int .i64)] [] [(2, .bool)] [(2, 4), (5, 6), (8, 19)] ((fun n x w => spring_long_l0 K n x.1 x.2.1 x.2.2.1 x.2.2.2.1 w) n) (.block 0 (.loop (cd (bodyOf f20) [1, 1, 0, 1, 0, 0]))) :=
    mk_loopQ (O := tabL []) (root := (bodyOf f20)) (π := [1, 1, 0, 1, 0, 0]) (id := 0) (Li := [(3, .int .i64), (6, .sl), (7, .int .i64), (8, .int .i64)]) (Lo := []) (Lr := [(2, .bool)]) (S := (fun n x w => spring_long_l0 K n x.1 x.2.1 x.2.2.1 x.2.2.2.1 w)) (body := cd (bodyOf f20) [1, 1, 0, 1, 0, 0]) (spring_long_Rok K) (OrcQ.nil _ _ _) (by kernel_rfl) (fun _ _ => by kernel_rfl) (fun _ _ _ => by kernel_rfl) n
noncomputable def spring_long_l0_se (K : Nat) : SQ := stmtQ [(3, .int .i64), (6, .sl), (7, .int .i64), (8, .int .i64)] [] [(2, .bool)] [(2, 4), (5, 6), (8, 19)] (fun x w => spring_long_l0 K K x.1 x.2.1 x.2.2.1 x.2.2.2.1 w)
theorem spring_long_l0_se_ok (K : Nat) (R : Rg) (h : subRB [(2, 4), (5, 6), (8, 19)] R = true) : (spring_long_l0_se K).Ok prog R (.block 0 (.loop (cd (bodyOf f20) [1, 1, 0, 1, 0, 0]))) := stmtQ_ok (Li := [(3, .int .i64), (6, .sl), (7, .int .i64), (8, .int .i64)]) (Lo := []) (Lr := [(2, .bool)]) (S := (fun x w => spring_long_l0 K K x.1 x.2.1 x.2.2.1 x.2.2.2.1 w)) (spring_long_l0_ok K K) (subR_of h)
theorem spring_long_facts : FunFacts prog 20 f20 (bodyOf f20) [(0, .sl)] [(0, 19)] := ⟨func20, by kernel_rfl, by kernel_rfl, by kernel_rfl, by kernel_rfl, by kernel_rfl⟩
theorem spring_long_calls (K : Nat) (x : TT [(0, .sl)]) (w : World) (y : TR [.bool]) (h : spring_long K x.1 w = some y) : Calls prog 20 (encA [(0, .sl)] x).toArray w (fun e w3 => e = .returned (resV (encR [.bool] y)) ∧ w3 = w) :=
    mk_funQ (O := tabL [([1, 1, 0, 1], spring_long_l0_se K)]) (Lp := [(0, .sl)]) (Rt := [.bool]) (S := (fun x w => spring_long K x.1 w)) (spring_long_Rok K) spring_long_facts (OrcQ.cons (by kernel_rfl) (spring_long_l0_se_ok K [(0, 19)] (by kernel_rfl)) (OrcQ.nil _ _ _)) (fun _ _ => by kernel_rfl) x w y h
noncomputable def spring_long_re (K : Nat) : RE := funR [(0, .sl)] [.bool] (fun x w => spring_long K x.1 w)
theorem spring_long_ok (K : Nat) : (spring_long_re K).Ok prog 20 := funR_ok (Rt := [.bool]) (S := (fun x w => spring_long K x.1 w)) spring_long_facts fun x w y h => spring_long_calls K x w y h

end Go.Sh

/- What functions of the program do, as Lean functions; that the machine does just that. Printed by shal.py, a program of this claim's writer. -/
set_option maxRecDepth 100000
set_option linter.unusedVariables false
namespace Go.Sh
open Go.Fw Go.Proofs.Tryd

noncomputable def spring_Spring_Feed_E (K : Nat) : List (Nat × CE) := [(19, spring_Spring_update_ce K)]
theorem spring_Spring_Feed_Eok (K : Nat) : Env.Ok prog (tab (spring_Spring_Feed_E K)) := (Env.cons (spring_Spring_update_ok K) (Env.nil _))
noncomputable def spring_Spring_Feed_R (K : Nat) : List (Nat × RE) := [(17, spring_fit_re), (20, spring_long_re K)]
theorem spring_Spring_Feed_Rok (K : Nat) : REnv.Ok prog (tab (spring_Spring_Feed_R K)) := (REnv.cons (spring_fit_ok) (REnv.cons (spring_long_ok K) (REnv.nil _)))
/-- (*coffer/spring.Spring).Feed -/
noncomputable def spring_Spring_Feed (K : Nat) (s0 : Option Addr) (entropy1 : Sl) (extra2 : Sl) (w : World) : Option ((Int × Unit) × World) :=
  if s0.isNone = true then (some ((1, ()), w)) else ((spring_fit entropy1).bind fun r_1 =>
  if (!r_1.1) = true then (some ((60, ()), w)) else ((spring_long K extra2 w).bind fun r_2 =>
  if r_2.1 = true then (some ((4, ()), w)) else (bnd (bldS prog 32 1 #[(0, (.slice entropy1.a entropy1.len entropy1.cap))] w) fun s_3 w_4 =>
  bnd (apd prog 32 32 (.slice s_3.a s_3.len s_3.cap) (.slice extra2.a extra2.len extra2.cap) w_4) fun s_5 w_6 =>
  bnd (spring_Spring_update K s0 s_5 w_6) fun r_7 w_8 =>
  (s0).bind fun p_9 =>
  (stC (p_9.add 2) (.int .i64 0) w_8).bind fun w_10 =>
  some ((0, ()), w_10))))
theorem spring_Spring_Feed_facts : FunFacts prog 8 f8 (bodyOf f8) [(0, .ptr), (1, .sl), (2, .sl)] [(0, 26)] := ⟨func8, by kernel_rfl, by kernel_rfl, by kernel_rfl, by kernel_rfl, by kernel_rfl⟩
theorem spring_Spring_Feed_calls (K : Nat) (x : TT [(0, .ptr), (1, .sl), (2, .sl)]) (w : World) (y : TR [.int .i64]) (w2 : World) (h : spring_Spring_Feed K x.1 x.2.1 x.2.2.1 w = some (y, w2)) : Calls prog 8 (encA [(0, .ptr), (1, .sl), (2, .sl)] x).toArray w (fun e w3 => e = .returned (resV (encR [.int .i64] y)) ∧ w3 = w2) :=
    mk_fun (O := tabL []) (Lp := [(0, .ptr), (1, .sl), (2, .sl)]) (Rt := [.int .i64]) (S := (fun x w => spring_Spring_Feed K x.1 x.2.1 x.2.2.1 w)) (spring_Spring_Feed_Eok K) (spring_Spring_Feed_Rok K) rfl spring_Spring_Feed_facts (Orc.nil _ _ _) (fun _ _ => by kernel_rfl) x w y w2 h
noncomputable def spring_Spring_Feed_ce (K : Nat) : CE := funE [(0, .ptr), (1, .sl), (2, .sl)] [.int .i64] (fun x w => spring_Spring_Feed K x.1 x.2.1 x.2.2.1 w)
theorem spring_Spring_Feed_ok (K : Nat) : (spring_Spring_Feed_ce K).Ok prog 8 := funE_ok (Rt := [.int .i64]) (S := (fun x w => spring_Spring_Feed K x.1 x.2.1 x.2.2.1 w)) spring_Spring_Feed_facts fun x w y w2 h => spring_Spring_Feed_calls K x w y w2 h

noncomputable def law06_bytes_R (K : Nat) : List (Nat × RE) := []
theorem law06_bytes_Rok (K : Nat) : REnv.Ok prog (tab (law06_bytes_R K)) := (REnv.nil _)
noncomputable def law06_bytes_l0_b (K : Nat) (w : World) (rec : Sl → Int → Int → Option (Out (Int × Unit) (Int × Unit))) (l0 : Sl) (n3 : Int) (i4 : Int) : Option (Out (Int × Unit) (Int × Unit)) :=
  if (decide (i4 < ((l0.len : Nat) : Int))) = true then ((l0.a).bind fun p_1 =>
  if (0 : Int) ≤ i4 ∧ i4 < ((l0.len : Nat) : Int) then ((ldS (p_1.add ((Int.toNat i4) * 1)) w).bind fun v_2 =>
  rec l0 (IntKind.i64.wrap (n3 + ((v_2.len : Nat) : Int))) (IntKind.i64.wrap (i4 + 1))) else none) else (some (.norm (n3, ())))
noncomputable def law06_bytes_l0 (K : Nat) (n : Nat) (l0 : Sl) (n3 : Int) (i4 : Int) (w : World) : Option (Out (Int × Unit) (Int × Unit)) := iter (α := Sl → Int → Int → Option (Out (Int × Unit) (Int × Unit))) (fun _ _ _ => none) (law06_bytes_l0_b K w) n l0 n3 i4
/-- coffer/cofferlaw06.bytes -/
noncomputable def law06_bytes (K : Nat) (l0 : Sl) (w : World) : Option (Int × Unit) :=
  (law06_bytes_l0 K K l0 0 0 w).bind fun y_3 =>
  (match y_3 with
  | .norm z_4n => (some (z_4n.1, ()))
  | .ret z_4r => (some (z_4r.1, ())))
theorem law06_bytes_l0_ok (K : Nat) (n : Nat) : StmtQOk prog [(0, .sl), (3, .int .i64), (4, .int .i64)] [(3, .int .i64)] [(2, .int .i64)] [(3, 18)] ((fun n x w => law06_bytes_l0 K n x.1 x.2.1 x.2.2.1 w) n) (.block 0 (.loop (cd (bodyOf f9) [1, 1, 0, 1, 0, 0]))) :=
    mk_loopQ (O := tabL []) (root := (bodyOf f9)) (π := [1, 1, 0, 1, 0, 0]) (id := 0) (Li := [(0, .sl), (3, .int .i64), (4, .int .i64)]) (Lo := [(3, .int .i64)]) (Lr := [(2, .int .i64)]) (S := (fun n x w => law06_bytes_l0 K n x.1 x.2.1 x.2.2.1 w)) (body := cd (bodyOf f9) [1, 1, 0, 1, 0, 0]) (law06_bytes_Rok K) (OrcQ.nil _ _ _) (by kernel_rfl) (fun _ _ => by kernel_rfl) (fun _ _ _ => by kernel_rfl) n
noncomputable def law06_bytes_l0_se (K : Nat) : SQ := stmtQ [(0, .sl), (3, .int .i64), (4, .int .i64)] [(3, .int .i64)] [(2, .int .i64)] [(3, 18)] (fun x w => law06_bytes_l0 K K x.1 x.2.1 x.2.2.1 w)
theorem law06_bytes_l0_se_ok (K : Nat) (R : Rg) (h : subRB [(3, 18)] R = true) : (law06_bytes_l0_se K).Ok prog R (.block 0 (.loop (cd (bodyOf f9) [1, 1, 0, 1, 0, 0]))) := stmtQ_ok (Li := [(0, .sl), (3, .int .i64), (4, .int .i64)]) (Lo := [(3, .int .i64)]) (Lr := [(2, .int .i64)]) (S := (fun x w => law06_bytes_l0 K K x.1 x.2.1 x.2.2.1 w)) (law06_bytes_l0_ok K K) (subR_of h)
theorem law06_bytes_facts : FunFacts prog 9 f9 (bodyOf f9) [(0, .sl)] [(0, 19)] := ⟨func9, by kernel_rfl, by kernel_rfl, by kernel_rfl, by kernel_rfl, by kernel_rfl⟩
theorem law06_bytes_calls (K : Nat) (x : TT [(0, .sl)]) (w : World) (y : TR [.int .i64]) (h : law06_bytes K x.1 w = some y) : Calls prog 9 (encA [(0, .sl)] x).toArray w (fun e w3 => e = .returned (resV (encR [.int .i64] y)) ∧ w3 = w) :=
    mk_funQ (O := tabL [([1, 1, 0, 1], law06_bytes_l0_se K)]) (Lp := [(0, .sl)]) (Rt := [.int .i64]) (S := (fun x w => law06_bytes K x.1 w)) (law06_bytes_Rok K) law06_bytes_facts (OrcQ.cons (by kernel_rfl) (law06_bytes_l0_se_ok K [(0, 19)] (by kernel_rfl)) (OrcQ.nil _ _ _)) (fun _ _ => by kernel_rfl) x w y h
noncomputable def law06_bytes_re (K : Nat) : RE := funR [(0, .sl)] [.int .i64] (fun x w => law06_bytes K x.1 w)
theorem law06_bytes_ok (K : Nat) : (law06_bytes_re K).Ok prog 9 := funR_ok (Rt := [.int .i64]) (S := (fun x w => law06_bytes K x.1 w)) law06_bytes_facts fun x w y h => law06_bytes_calls K x w y h

noncomputable def spring_Spring_Draw_E (K : Nat) : List (Nat × CE) := [(21, slices_ContainsFunc_byte_byte_ce K), (19, spring_Spring_update_ce K), (23, spring_Spring_code_ce K)]
theorem spring_Spring_Draw_Eok (K : Nat) : Env.Ok prog (tab (spring_Spring_Draw_E K)) := (Env.cons (slices_ContainsFunc_byte_byte_ok K) (Env.cons (spring_Spring_update_ok K) (Env.cons (spring_Spring_code_ok K) (Env.nil _))))
noncomputable def spring_Spring_Draw_R (K : Nat) : List (Nat × RE) := [(20, spring_long_re K)]
theorem spring_Spring_Draw_Rok (K : Nat) : REnv.Ok prog (tab (spring_Spring_Draw_R K)) := (REnv.cons (spring_long_ok K) (REnv.nil _))
noncomputable def spring_Spring_Draw_s1 (K : Nat) (n1 : Int) (extra2 : Sl) (w : World) : Option ((Bool × Unit) × World) :=
  if (decide (n1 > 65536)) = true then (some ((true, ()), w)) else ((spring_long K extra2 w).bind fun r_1 =>
  some ((r_1.1, ()), w))
noncomputable def spring_Spring_Draw_s0 (K : Nat) (s0 : Option Addr) (n1 : Int) (extra2 : Sl) (w : World) : Option ((Out (Unit) (Sl × Int × Unit)) × World) :=
  if s0.isNone = true then (some (.ret (⟨none, 0, 0⟩, 1, ()), w)) else (if (decide (n1 < 0)) = true then (some (.ret (⟨none, 0, 0⟩, 2, ()), w)) else (bnd (spring_Spring_Draw_s1 K n1 extra2 w) fun y_2 w_3 =>
  if y_2.1 = true then (some (.ret (⟨none, 0, 0⟩, 4, ()), w_3)) else ((s0).bind fun p_4 =>
  (s0).bind fun p_5 =>
  (ldI .i64 (p_4.add 2) w_3.drew).bind fun v_6 =>
  (ldI .i64 (p_5.add 1) w_3.drew).bind fun v_7 =>
  if (v_6 == v_7) = true then (some (.ret (⟨none, 0, 0⟩, 61, ()), w_3.drew)) else (some (.norm (), w_3.drew)))))
noncomputable def spring_Spring_Draw_s2 (K : Nat) (s0 : Option Addr) (extra2 : Sl) (a33 : Bool) (w : World) : Option ((Unit) × World) :=
  if a33 = true then (bnd (spring_Spring_update K s0 extra2 w) fun r_13 w_14 =>
  some ((), w_14)) else (some ((), w))
noncomputable def spring_Spring_Draw_l3_b (K : Nat) (rec : Option Addr → Int → Sl → Sl → World → Option ((Sl × Unit) × World)) (s0 : Option Addr) (n1 : Int) (extra2 : Sl) (out8 : Sl) (w : World) : Option ((Sl × Unit) × World) :=
  if (decide (((out8.len : Nat) : Int) < n1)) = true then ((s0).bind fun p_17 =>
  (ldS (p_17.add 4) w).bind fun v_18 =>
  bnd (bldS prog 32 1 #[(0, (.slice v_18.a v_18.len v_18.cap))] w) fun s_19 w_20 =>
  bnd (spring_Spring_code K s0 s_19 w_20) fun r_21 w_22 =>
  (s0).bind fun p_23 =>
  (stC (p_23.add 4) (.slice r_21.1.a r_21.1.len r_21.1.cap) w_22).bind fun w_24 =>
  (s0).bind fun p_25 =>
  (ldS (p_25.add 4) w_24).bind fun v_26 =>
  bnd (apd prog 22 22 (.slice out8.a out8.len out8.cap) (.slice v_26.a v_26.len v_26.cap) w_24) fun s_27 w_28 =>
  rec s0 n1 extra2 s_27 w_28) else (some ((out8, ()), w))
noncomputable def spring_Spring_Draw_l3 (K : Nat) (n : Nat) : Option Addr → Int → Sl → Sl → World → Option ((Sl × Unit) × World) := iter (fun _ _ _ _ _ => none) (spring_Spring_Draw_l3_b K) n
/-- (*coffer/spring.Spring).Draw -/
noncomputable def spring_Spring_Draw (K : Nat) (s0 : Option Addr) (n1 : Int) (extra2 : Sl) (w : World) : Option ((Sl × Int × Unit) × World) :=
  bnd (spring_Spring_Draw_s0 K s0 n1 extra2 w) fun y_8 w_9 =>
  (match y_8 with
  | .norm z_10n => (bnd (slices_ContainsFunc_byte_byte K extra2 (.func (.func 22) #[] #[]) w_9) fun r_11 w_12 =>
  bnd (spring_Spring_Draw_s2 K s0 extra2 r_11.1 w_12) fun y_15 w_16 =>
  bnd (spring_Spring_Draw_l3 K K s0 n1 extra2 ⟨none, 0, 0⟩ w_16) fun y_29 w_30 =>
  bnd (spring_Spring_update K s0 extra2 w_30) fun r_31 w_32 =>
  (s0).bind fun p_33 =>
  (ldI .i64 (p_33.add 2) w_32).bind fun v_34 =>
  (s0).bind fun p_35 =>
  (stC (p_35.add 2) (.int .i64 (IntKind.i64.wrap (v_34 + 1))) w_32).bind fun w_36 =>
  if (0 : Int) ≤ n1 ∧ n1 ≤ ((y_29.1.cap : Nat) : Int) then (if (0 : Int) ≤ n1 ∧ n1 ≤ (((Int.toNat (n1)) : Nat) : Int) then (some ((⟨(sla y_29.1.a 0 (Int.toNat (n1)) 1), ((Int.toNat (n1)) - 0), ((Int.toNat (n1)) - 0)⟩, 0, ()), w_36)) else none) else none)
  | .ret z_10r => (some ((z_10r.1, z_10r.2.1, ()), w_9)))
theorem spring_Spring_Draw_s1_ok (K : Nat) : StmtNOk prog [(1, .int .i64), (2, .sl)] [(15, .bool)] [(15, 22)] (fun x w => spring_Spring_Draw_s1 K x.1 x.2.1 w) (cd (bodyOf f10) [1, 0, 0, 1, 1, 1, 1, 0]) :=
    mk_stmtN (O := tabL []) (root := (bodyOf f10)) (π := [1, 0, 0, 1, 1, 1, 1, 0]) (Li := [(1, .int .i64), (2, .sl)]) (Lo := [(15, .bool)]) (S := (fun x w => spring_Spring_Draw_s1 K x.1 x.2.1 w)) (spring_Spring_Draw_Eok K) (spring_Spring_Draw_Rok K) rfl (Orc.nil _ _ _) (by kernel_rfl) (fun _ _ => by kernel_rfl)
noncomputable def spring_Spring_Draw_s1_se (K : Nat) : SE := stmtN [(1, .int .i64), (2, .sl)] [(15, .bool)] [(15, 22)] (fun x w => spring_Spring_Draw_s1 K x.1 x.2.1 w)
theorem spring_Spring_Draw_s1_se_ok (K : Nat) (R : Rg) (h : subRB [(15, 22)] R = true) : (spring_Spring_Draw_s1_se K).Ok prog R (cd (bodyOf f10) [1, 0, 0, 1, 1, 1, 1, 0]) := stmtN_ok (Li := [(1, .int .i64), (2, .sl)]) (Lo := [(15, .bool)]) (S := (fun x w => spring_Spring_Draw_s1 K x.1 x.2.1 w)) (spring_Spring_Draw_s1_ok K) (subR_of h)
theorem spring_Spring_Draw_s0_ok (K : Nat) : StmtOk prog [(0, .ptr), (1, .int .i64), (2, .sl)] [] [(6, .sl), (7, .int .i64)] [(6, 8), (9, 32)] (fun x w => spring_Spring_Draw_s0 K x.1 x.2.1 x.2.2.1 w) (cd (bodyOf f10) [1, 0]) :=
    mk_stmt (O := tabL [([1, 0, 0, 1, 1, 1, 1, 0], spring_Spring_Draw_s1_se K)]) (root := (bodyOf f10)) (π := [1, 0]) (Li := [(0, .ptr), (1, .int .i64), (2, .sl)]) (Lo := []) (Lr := [(6, .sl), (7, .int .i64)]) (S := (fun x w => spring_Spring_Draw_s0 K x.1 x.2.1 x.2.2.1 w)) (spring_Spring_Draw_Eok K) (spring_Spring_Draw_Rok K) rfl (Orc.cons (by kernel_rfl) (spring_Spring_Draw_s1_se_ok K [(6, 8), (9, 32)] (by kernel_rfl)) (Orc.nil _ _ _)) (by kernel_rfl) (fun _ _ => by kernel_rfl)
noncomputable def spring_Spring_Draw_s0_se (K : Nat) : SE := stmt [(0, .ptr), (1, .int .i64), (2, .sl)] [] [(6, .sl), (7, .int .i64)] [(6, 8), (9, 32)] (fun x w => spring_Spring_Draw_s0 K x.1 x.2.1 x.2.2.1 w)
theorem spring_Spring_Draw_s0_se_ok (K : Nat) (R : Rg) (h : subRB [(6, 8), (9, 32)] R = true) : (spring_Spring_Draw_s0_se K).Ok prog R (cd (bodyOf f10) [1, 0]) := stmt_ok (Li := [(0, .ptr), (1, .int .i64), (2, .sl)]) (Lo := []) (Lr := [(6, .sl), (7, .int .i64)]) (S := (fun x w => spring_Spring_Draw_s0 K x.1 x.2.1 x.2.2.1 w)) (spring_Spring_Draw_s0_ok K) (subR_of h)
theorem spring_Spring_Draw_s2_ok (K : Nat) : StmtNOk prog [(0, .ptr), (2, .sl), (33, .bool)] [] [(34, 37)] (fun x w => spring_Spring_Draw_s2 K x.1 x.2.1 x.2.2.1 w) (cd (bodyOf f10) [1, 1, 0, 1]) :=
    mk_stmtN (O := tabL []) (root := (bodyOf f10)) (π := [1, 1, 0, 1]) (Li := [(0, .ptr), (2, .sl), (33, .bool)]) (Lo := []) (S := (fun x w => spring_Spring_Draw_s2 K x.1 x.2.1 x.2.2.1 w)) (spring_Spring_Draw_Eok K) (spring_Spring_Draw_Rok K) rfl (Orc.nil _ _ _) (by kernel_rfl) (fun _ _ => by kernel_rfl)
noncomputable def spring_Spring_Draw_s2_se (K : Nat) : SE := stmtN [(0, .ptr), (2, .sl), (33, .bool)] [] [(34, 37)] (fun x w => spring_Spring_Draw_s2 K x.1 x.2.1 x.2.2.1 w)
theorem spring_Spring_Draw_s2_se_ok (K : Nat) (R : Rg) (h : subRB [(34, 37)] R = true) : (spring_Spring_Draw_s2_se K).Ok prog R (cd (bodyOf f10) [1, 1, 0, 1]) := stmtN_ok (Li := [(0, .ptr), (2, .sl), (33, .bool)]) (Lo := []) (S := (fun x w => spring_Spring_Draw_s2 K x.1 x.2.1 x.2.2.1 w)) (spring_Spring_Draw_s2_ok K) (subR_of h)
theorem spring_Spring_Draw_l3_ok (K : Nat) (n : Nat) : StmtNOk prog [(0, .ptr), (1, .int .i64), (2, .sl), (8, .sl)] [(8, .sl)] [(8, 9), (37, 57)] ((fun n x w => spring_Spring_Draw_l3 K n x.1 x.2.1 x.2.2.1 x.2.2.2.1 w) n) (.block 1 (.loop (cd (bodyOf f10) [1, 1, 1, 1, 0, 0, 0]))) :=
    mk_loopN (O := tabL []) (root := (bodyOf f10)) (π := [1, 1, 1, 1, 0, 0, 0]) (id := 1) (Li := [(0, .ptr), (1, .int .i64), (2, .sl), (8, .sl)]) (Lo := [(8, .sl)]) (S := (fun n x w => spring_Spring_Draw_l3 K n x.1 x.2.1 x.2.2.1 x.2.2.2.1 w)) (body := cd (bodyOf f10) [1, 1, 1, 1, 0, 0, 0]) (spring_Spring_Draw_Eok K) (spring_Spring_Draw_Rok K) rfl (Orc.nil _ _ _) (by kernel_rfl) (fun _ _ => by kernel_rfl) (fun _ _ _ => by kernel_rfl) n
noncomputable def spring_Spring_Draw_l3_se (K : Nat) : SE := stmtN [(0, .ptr), (1, .int .i64), (2, .sl), (8, .sl)] [(8, .sl)] [(8, 9), (37, 57)] (fun x w => spring_Spring_Draw_l3 K K x.1 x.2.1 x.2.2.1 x.2.2.2.1 w)
theorem spring_Spring_Draw_l3_se_ok (K : Nat) (R : Rg) (h : subRB [(8, 9), (37, 57)] R = true) : (spring_Spring_Draw_l3_se K).Ok prog R (.block 1 (.loop (cd (bodyOf f10) [1, 1, 1, 1, 0, 0, 0]))) := stmtN_ok (Li := [(0, .ptr), (1, .int .i64), (2, .sl), (8, .sl)]) (Lo := [(8, .sl)]) (S := (fun x w => spring_Spring_Draw_l3 K K x.1 x.2.1 x.2.2.1 x.2.2.2.1 w)) (spring_Spring_Draw_l3_ok K K) (subR_of h)
theorem spring_Spring_Draw_facts : FunFacts prog 10 f10 (bodyOf f10) [(0, .ptr), (1, .int .i64), (2, .sl)] [(0, 71)] := ⟨func10, by kernel_rfl, by kernel_rfl, by kernel_rfl, by kernel_rfl, by kernel_rfl⟩
theorem spring_Spring_Draw_calls (K : Nat) (x : TT [(0, .ptr), (1, .int .i64), (2, .sl)]) (w : World) (y : TR [.sl, .int .i64]) (w2 : World) (h : spring_Spring_Draw K x.1 x.2.1 x.2.2.1 w = some (y, w2)) : Calls prog 10 (encA [(0, .ptr), (1, .int .i64), (2, .sl)] x).toArray w (fun e w3 => e = .returned (resV (encR [.sl, .int .i64] y)) ∧ w3 = w2) :=
    mk_fun (O := tabL [([1, 0], spring_Spring_Draw_s0_se K), ([1, 0, 0, 1, 1, 1, 1, 0], spring_Spring_Draw_s1_se K), ([1, 1, 0, 1], spring_Spring_Draw_s2_se K), ([1, 1, 1, 1, 0], spring_Spring_Draw_l3_se K)]) (Lp := [(0, .ptr), (1, .int .i64), (2, .sl)]) (Rt := [.sl, .int .i64]) (S := (fun x w => spring_Spring_Draw K x.1 x.2.1 x.2.2.1 w)) (spring_Spring_Draw_Eok K) (spring_Spring_Draw_Rok K) rfl spring_Spring_Draw_facts (Orc.cons (by kernel_rfl) (spring_Spring_Draw_s0_se_ok K [(0, 71)] (by kernel_rfl)) (Orc.cons (by kernel_rfl) (spring_Spring_Draw_s1_se_ok K [(0, 71)] (by kernel_rfl)) (Orc.cons (by kernel_rfl) (spring_Spring_Draw_s2_se_ok K [(0, 71)] (by kernel_rfl)) (Orc.cons (by kernel_rfl) (spring_Spring_Draw_l3_se_ok K [(0, 71)] (by kernel_rfl)) (Orc.nil _ _ _))))) (fun _ _ => by kernel_rfl) x w y w2 h
noncomputable def spring_Spring_Draw_ce (K : Nat) : CE := funE [(0, .ptr), (1, .int .i64), (2, .sl)] [.sl, .int .i64] (fun x w => spring_Spring_Draw K x.1 x.2.1 x.2.2.1 w)
theorem spring_Spring_Draw_ok (K : Nat) : (spring_Spring_Draw_ce K).Ok prog 10 := funE_ok (Rt := [.sl, .int .i64]) (S := (fun x w => spring_Spring_Draw K x.1 x.2.1 x.2.2.1 w)) spring_Spring_Draw_facts fun x w y w2 h => spring_Spring_Draw_calls K x w y w2 h

noncomputable def book_SameBytes_E (K : Nat) : List (Nat × CE) := []
theorem book_SameBytes_Eok (K : Nat) : Env.Ok prog (tab (book_SameBytes_E K)) := (Env.nil _)
noncomputable def book_SameBytes_R (K : Nat) : List (Nat × RE) := []
theorem book_SameBytes_Rok (K : Nat) : REnv.Ok prog (tab (book_SameBytes_R K)) := (REnv.nil _)
noncomputable def book_SameBytes_l0_b (K : Nat) (rec : Sl → Sl → Int → World → Option ((Out (Unit) (Bool × Unit)) × World)) (a0 : Sl) (b1 : Sl) (i5 : Int) (w : World) : Option ((Out (Unit) (Bool × Unit)) × World) :=
  if (decide (i5 < ((a0.len : Nat) : Int))) = true then ((a0.a).bind fun p_1 =>
  if (0 : Int) ≤ i5 ∧ i5 < ((a0.len : Nat) : Int) then ((b1.a).bind fun p_2 =>
  if (0 : Int) ≤ i5 ∧ i5 < ((b1.len : Nat) : Int) then ((ldI .u8 (p_1.add ((Int.toNat i5) * 1)) w.drew).bind fun v_3 =>
  (ldI .u8 (p_2.add ((Int.toNat i5) * 1)) w.drew).bind fun v_4 =>
  if (v_3 != v_4) = true then (some (.ret (false, ()), w.drew)) else (rec a0 b1 (IntKind.i64.wrap (i5 + 1)) w.drew)) else none) else none) else (some (.norm (), w))
noncomputable def book_SameBytes_l0 (K : Nat) (n : Nat) : Sl → Sl → Int → World → Option ((Out (Unit) (Bool × Unit)) × World) := iter (fun _ _ _ _ => none) (book_SameBytes_l0_b K) n
/-- coffer/cofferbook.SameBytes -/
noncomputable def book_SameBytes (K : Nat) (a0 : Sl) (b1 : Sl) (w : World) : Option ((Bool × Unit) × World) :=
  if (((a0.len : Nat) : Int) != ((b1.len : Nat) : Int)) = true then (some ((false, ()), w)) else (bnd (book_SameBytes_l0 K K a0 b1 0 w) fun y_5 w_6 =>
  (match y_5 with
  | .norm z_7n => (some ((true, ()), w_6))
  | .ret z_7r => (some ((z_7r.1, ()), w_6))))
theorem book_SameBytes_l0_ok (K : Nat) (n : Nat) : StmtOk prog [(0, .sl), (1, .sl), (5, .int .i64)] [] [(4, .bool)] [(4, 6), (11, 26)] ((fun n x w => book_SameBytes_l0 K n x.1 x.2.1 x.2.2.1 w) n) (.block 0 (.loop (cd (bodyOf f11) [1, 1, 0, 1, 0, 0]))) :=
    mk_loop (O := tabL []) (root := (bodyOf f11)) (π := [1, 1, 0, 1, 0, 0]) (id := 0) (Li := [(0, .sl), (1, .sl), (5, .int .i64)]) (Lo := []) (Lr := [(4, .bool)]) (S := (fun n x w => book_SameBytes_l0 K n x.1 x.2.1 x.2.2.1 w)) (body := cd (bodyOf f11) [1, 1, 0, 1, 0, 0]) (book_SameBytes_Eok K) (book_SameBytes_Rok K) rfl (Orc.nil _ _ _) (by kernel_rfl) (fun _ _ => by kernel_rfl) (fun _ _ _ => by kernel_rfl) n
noncomputable def book_SameBytes_l0_se (K : Nat) : SE := stmt [(0, .sl), (1, .sl), (5, .int .i64)] [] [(4, .bool)] [(4, 6), (11, 26)] (fun x w => book_SameBytes_l0 K K x.1 x.2.1 x.2.2.1 w)
theorem book_SameBytes_l0_se_ok (K : Nat) (R : Rg) (h : subRB [(4, 6), (11, 26)] R = true) : (book_SameBytes_l0_se K).Ok prog R (.block 0 (.loop (cd (bodyOf f11) [1, 1, 0, 1, 0, 0]))) := stmt_ok (Li := [(0, .sl), (1, .sl), (5, .int .i64)]) (Lo := []) (Lr := [(4, .bool)]) (S := (fun x w => book_SameBytes_l0 K K x.1 x.2.1 x.2.2.1 w)) (book_SameBytes_l0_ok K K) (subR_of h)
theorem book_SameBytes_facts : FunFacts prog 11 f11 (bodyOf f11) [(0, .sl), (1, .sl)] [(0, 26)] := ⟨func11, by kernel_rfl, by kernel_rfl, by kernel_rfl, by kernel_rfl, by kernel_rfl⟩
theorem book_SameBytes_calls (K : Nat) (x : TT [(0, .sl), (1, .sl)]) (w : World) (y : TR [.bool]) (w2 : World) (h : book_SameBytes K x.1 x.2.1 w = some (y, w2)) : Calls prog 11 (encA [(0, .sl), (1, .sl)] x).toArray w (fun e w3 => e = .returned (resV (encR [.bool] y)) ∧ w3 = w2) :=
    mk_fun (O := tabL [([1, 1, 0, 1], book_SameBytes_l0_se K)]) (Lp := [(0, .sl), (1, .sl)]) (Rt := [.bool]) (S := (fun x w => book_SameBytes K x.1 x.2.1 w)) (book_SameBytes_Eok K) (book_SameBytes_Rok K) rfl book_SameBytes_facts (Orc.cons (by kernel_rfl) (book_SameBytes_l0_se_ok K [(0, 26)] (by kernel_rfl)) (Orc.nil _ _ _)) (fun _ _ => by kernel_rfl) x w y w2 h
noncomputable def book_SameBytes_ce (K : Nat) : CE := funE [(0, .sl), (1, .sl)] [.bool] (fun x w => book_SameBytes K x.1 x.2.1 w)
theorem book_SameBytes_ok (K : Nat) : (book_SameBytes_ce K).Ok prog 11 := funE_ok (Rt := [.bool]) (S := (fun x w => book_SameBytes K x.1 x.2.1 w)) book_SameBytes_facts fun x w y w2 h => book_SameBytes_calls K x w y w2 h

noncomputable def law06_SpringRepeats_E (K : Nat) : List (Nat × CE) := [(5, law06_good_ce), (6, spring_New_ce K), (8, spring_Spring_Feed_ce K), (10, spring_Spring_Draw_ce K), (11, book_SameBytes_ce K)]
theorem law06_SpringRepeats_Eok (K : Nat) : Env.Ok prog (tab (law06_SpringRepeats_E K)) := (Env.cons (law06_good_ok) (Env.cons (spring_New_ok K) (Env.cons (spring_Spring_Feed_ok K) (Env.cons (spring_Spring_Draw_ok K) (Env.cons (book_SameBytes_ok K) (Env.nil _))))))
noncomputable def law06_SpringRepeats_R (K : Nat) : List (Nat × RE) := [(7, law06_num_re), (9, law06_bytes_re K)]
theorem law06_SpringRepeats_Rok (K : Nat) : REnv.Ok prog (tab (law06_SpringRepeats_R K)) := (REnv.cons (law06_num_ok) (REnv.cons (law06_bytes_ok K) (REnv.nil _)))
noncomputable def law06_SpringRepeats_s0 (K : Nat) (c2 : Addr) (w : World) : Option ((Sl × Unit) × World) :=
  (ldS (c2.add 3) w.drew).bind fun v_6 =>
  (ldS (c2.add 4) w.drew).bind fun v_7 =>
  bnd (bldS prog 22 0 #[] w.drew) fun s_8 w_9 =>
  (ldS (c2.add 4) w_9).bind fun v_10 =>
  sameK (.slice v_7.a v_7.len v_7.cap) (.slice v_10.a v_10.len v_10.cap) ((ldS (c2.add 3) w_9).bind fun v_11 =>
  sameK (.slice v_6.a v_6.len v_6.cap) (.slice v_11.a v_11.len v_11.cap) (bnd (apd prog 22 22 (.slice s_8.a s_8.len s_8.cap) (.slice v_6.a v_6.len v_6.cap) w_9) fun s_12 w_13 =>
  (ldS (c2.add 4) w_13).bind fun v_14 =>
  sameK (.slice v_7.a v_7.len v_7.cap) (.slice v_14.a v_14.len v_14.cap) ((ldS (c2.add 3) w_13).bind fun v_15 =>
  sameK (.slice v_6.a v_6.len v_6.cap) (.slice v_15.a v_15.len v_15.cap) (bnd (apd prog 22 22 (.slice s_12.a s_12.len s_12.cap) (.slice v_7.a v_7.len v_7.cap) w_13) fun s_16 w_17 =>
  (ldS (c2.add 4) w_17).bind fun v_18 =>
  sameK (.slice v_7.a v_7.len v_7.cap) (.slice v_18.a v_18.len v_18.cap) ((ldS (c2.add 3) w_17).bind fun v_19 =>
  sameK (.slice v_6.a v_6.len v_6.cap) (.slice v_19.a v_19.len v_19.cap) (some ((s_16, ()), w_17)))))))
noncomputable def law06_SpringRepeats_s1 (K : Nat) (a7 : Option Addr) (e8 : Int) (b9 : Option Addr) (f10 : Int) (d11 : Option Addr) (g12 : Int) (w : World) : Option ((Bool × Unit) × World) :=
  (law06_num e8).bind fun r_38 =>
  if (r_38.1 != 0) = true then (some ((true, ()), w)) else ((law06_num f10).bind fun r_39 =>
  if (r_39.1 != 0) = true then (some ((true, ()), w)) else ((law06_num g12).bind fun r_40 =>
  if (r_40.1 != 0) = true then (some ((true, ()), w)) else (if a7.isNone = true then (some ((true, ()), w)) else (if b9.isNone = true then (some ((true, ()), w)) else (some ((d11.isNone, ()), w))))))
noncomputable def law06_SpringRepeats_s3 (K : Nat) (script1 : Sl) (i14 : Int) (w : World) : Option ((Bool × Unit) × World) :=
  if (decide (i14 < ((script1.len : Nat) : Int))) = true then (some (((decide (i14 < 30)), ()), w)) else (some ((false, ()), w))
noncomputable def law06_SpringRepeats_s4 (K : Nat) (b9 : Option Addr) (d11 : Option Addr) (o15 : Addr) (x16 : Int) (w : World) : Option ((Bool × Unit) × World) :=
  (ldS (o15.add 3) w).bind fun v_55 =>
  (ldS (o15.add 4) w).bind fun v_56 =>
  bnd (spring_Spring_Feed K b9 v_55 v_56 w) fun r_57 w_58 =>
  if (r_57.1 != x16) = true then (some ((true, ()), w_58)) else ((ldS (o15.add 3) w_58).bind fun v_59 =>
  (ldS (o15.add 4) w_58).bind fun v_60 =>
  bnd (spring_Spring_Feed K d11 v_59 v_60 w_58) fun r_61 w_62 =>
  some (((r_61.1 != x16), ()), w_62))
noncomputable def law06_SpringRepeats_s5 (K : Nat) (left13 : Int) (o15 : Addr) (w : World) : Option ((Bool × Unit) × World) :=
  (ldI .i64 (o15.add 2) w).bind fun v_65 =>
  if (decide (v_65 < 0)) = true then (some ((true, ()), w)) else ((ldI .i64 (o15.add 2) w).bind fun v_66 =>
  if (decide (v_66 > left13)) = true then (some ((true, ()), w)) else ((ldS (o15.add 4) w).bind fun v_67 =>
  (law06_bytes K v_67 w).bind fun r_68 =>
  some (((decide (r_68.1 > 65536)), ()), w)))
noncomputable def law06_SpringRepeats_l2_b (K : Nat) (rec : Sl → Option Addr → Option Addr → Option Addr → Int → Int → World → Option ((Out (Unit) (Bool × Unit)) × World)) (script1 : Sl) (a7 : Option Addr) (b9 : Option Addr) (d11 : Option Addr) (left13 : Int) (i14 : Int) (w : World) : Option ((Out (Unit) (Bool × Unit)) × World) :=
  bnd (law06_SpringRepeats_s3 K script1 i14 w) fun y_43 w_44 =>
  if y_43.1 = true then ((script1.a).bind fun p_45 =>
  if (0 : Int) ≤ i14 ∧ i14 < ((script1.len : Nat) : Int) then ((ldA 5 (p_45.add ((Int.toNat i14) * 5)) w_44).bind fun v_46 =>
  bnd (newB z34 34 w_44) fun o_47 w_48 =>
  if (v_46).size = 5 then ((stA o_47 v_46 w_48).bind fun w_49 =>
  (ldI .i64 (o_47.add 0) w_49).bind fun v_50 =>
  if (v_50 == 2) = true then ((ldS (o_47.add 3) w_49).bind fun v_51 =>
  (ldS (o_47.add 4) w_49).bind fun v_52 =>
  bnd (spring_Spring_Feed K a7 v_51 v_52 w_49) fun r_53 w_54 =>
  bnd (law06_SpringRepeats_s4 K b9 d11 o_47 r_53.1 w_54) fun y_63 w_64 =>
  if y_63.1 = true then (some (.ret (false, ()), w_64)) else (rec script1 a7 b9 d11 left13 (IntKind.i64.wrap (i14 + 1)) w_64)) else (bnd (law06_SpringRepeats_s5 K left13 o_47 w_49) fun y_69 w_70 =>
  if y_69.1 = true then (rec script1 a7 b9 d11 left13 (IntKind.i64.wrap (i14 + 1)) w_70) else ((ldI .i64 (o_47.add 2) w_70).bind fun v_71 =>
  (ldI .i64 (o_47.add 2) w_70).bind fun v_72 =>
  (ldS (o_47.add 4) w_70).bind fun v_73 =>
  bnd (spring_Spring_Draw K a7 v_72 v_73 w_70) fun r_74 w_75 =>
  (ldI .i64 (o_47.add 2) w_75).bind fun v_76 =>
  (ldS (o_47.add 4) w_75).bind fun v_77 =>
  bnd (spring_Spring_Draw K b9 v_76 v_77 w_75) fun r_78 w_79 =>
  (ldI .i64 (o_47.add 2) w_79).bind fun v_80 =>
  (ldS (o_47.add 4) w_79).bind fun v_81 =>
  bnd (spring_Spring_Draw K d11 v_80 v_81 w_79) fun r_82 w_83 =>
  (law06_num r_74.2.1).bind fun r_84 =>
  if (r_84.1 != 0) = true then (some (.ret (false, ()), w_83)) else ((law06_num r_78.2.1).bind fun r_85 =>
  if (r_85.1 != 0) = true then (some (.ret (false, ()), w_83)) else ((law06_num r_82.2.1).bind fun r_86 =>
  if (r_86.1 != 0) = true then (some (.ret (false, ()), w_83)) else ((ldI .i64 (o_47.add 2) w_83).bind fun v_87 =>
  if (((r_74.1.len : Nat) : Int) != v_87) = true then (some (.ret (false, ()), w_83)) else (bnd (book_SameBytes K r_74.1 r_78.1 w_83) fun r_88 w_89 =>
  if (!r_88.1) = true then (some (.ret (false, ()), w_89)) else (bnd (book_SameBytes K r_74.1 r_82.1 w_89) fun r_90 w_91 =>
  if (!r_90.1) = true then (some (.ret (false, ()), w_91)) else (rec script1 a7 b9 d11 (IntKind.i64.wrap (left13 - v_71)) (IntKind.i64.wrap (i14 + 1)) w_91))))))))) else none) else none) else (some (.norm (), w_44))
noncomputable def law06_SpringRepeats_l2 (K : Nat) (n : Nat) : Sl → Option Addr → Option Addr → Option Addr → Int → Int → World → Option ((Out (Unit) (Bool × Unit)) × World) := iter (fun _ _ _ _ _ _ _ => none) (law06_SpringRepeats_l2_b K) n
/-- coffer/cofferlaw06.SpringRepeats -/
noncomputable def law06_SpringRepeats {β : Type} (K : Nat) (c0 : Array Value) (script1 : Sl) (w : World) (k : (Bool × Unit) → World → Option β) : Option β :=
  bnd (newB c0 24 w) fun p_1 w_2 =>
  (ldA 5 p_1 w_2).bind fun v_3 =>
  bnd (law06_good v_3 w_2) fun r_4 w_5 =>
  if (!r_4.1) = true then (k (true, ()) w_5) else (bnd (law06_SpringRepeats_s0 K p_1 w_5) fun y_20 w_21 =>
  (ldI .i64 (p_1.add 0) w_21).bind fun v_22 =>
  (ldS (p_1.add 2) w_21).bind fun v_23 =>
  (ldS (p_1.add 3) w_21).bind fun v_24 =>
  (ldS (p_1.add 4) w_21).bind fun v_25 =>
  spring_New K v_22 16777216 v_23 v_24 v_25 w_21 fun r_26 w_27 =>
  (ldI .i64 (p_1.add 0) w_27).bind fun v_28 =>
  (ldS (p_1.add 2) w_27).bind fun v_29 =>
  (ldS (p_1.add 3) w_27).bind fun v_30 =>
  (ldS (p_1.add 4) w_27).bind fun v_31 =>
  spring_New K v_28 16777216 v_29 v_30 v_31 w_27 fun r_32 w_33 =>
  if (0 : Int) ≤ (IntKind.i64.wrap (Int.tdiv ((y_20.1.len : Nat) : Int) 2)) ∧ (IntKind.i64.wrap (Int.tdiv ((y_20.1.len : Nat) : Int) 2)) ≤ ((y_20.1.cap : Nat) : Int) then (if (0 : Int) ≤ (IntKind.i64.wrap (Int.tdiv ((y_20.1.len : Nat) : Int) 2)) ∧ (IntKind.i64.wrap (Int.tdiv ((y_20.1.len : Nat) : Int) 2)) ≤ ((y_20.1.len : Nat) : Int) then ((ldI .i64 (p_1.add 0) w_33.drew).bind fun v_34 =>
  (ldS (p_1.add 2) w_33.drew).bind fun v_35 =>
  spring_New K v_34 16777216 v_35 ⟨(sla y_20.1.a 0 y_20.1.cap 1), ((Int.toNat ((IntKind.i64.wrap (Int.tdiv ((y_20.1.len : Nat) : Int) 2)))) - 0), (y_20.1.cap - 0)⟩ ⟨(sla y_20.1.a (Int.toNat ((IntKind.i64.wrap (Int.tdiv ((y_20.1.len : Nat) : Int) 2)))) y_20.1.cap 1), (y_20.1.len - (Int.toNat ((IntKind.i64.wrap (Int.tdiv ((y_20.1.len : Nat) : Int) 2))))), (y_20.1.cap - (Int.toNat ((IntKind.i64.wrap (Int.tdiv ((y_20.1.len : Nat) : Int) 2)))))⟩ w_33.drew fun r_36 w_37 =>
  bnd (law06_SpringRepeats_s1 K r_26.1 r_26.2.1 r_32.1 r_32.2.1 r_36.1 r_36.2.1 w_37) fun y_41 w_42 =>
  if y_41.1 = true then (k (false, ()) w_42) else (bnd (law06_SpringRepeats_l2 K K script1 r_26.1 r_32.1 r_36.1 8192 0 w_42) fun y_92 w_93 =>
  (match y_92 with
  | .norm z_94n => (k (true, ()) w_93)
  | .ret z_94r => (k (z_94r.1, ()) w_93)))) else none) else none)
theorem law06_SpringRepeats_s0_ok (K : Nat) : StmtNOk prog [(2, .addr)] [(5, .sl)] [(5, 6), (26, 33)] (fun x w => law06_SpringRepeats_s0 K x.1 w) (cd (bodyOf f3) [1, 1, 0]) :=
    mk_regionH (R := [(5, 6), (26, 33)]) (Li := [(2, .addr)]) (Lo := [(5, .sl)]) (S := (fun x w => law06_SpringRepeats_s0 K x.1 w)) (law06_SpringRepeats_Eok K) (law06_SpringRepeats_Rok K) rfl (fun _ _ => by kernel_rfl)
noncomputable def law06_SpringRepeats_s0_se (K : Nat) : SE := stmtN [(2, .addr)] [(5, .sl)] [(5, 6), (26, 33)] (fun x w => law06_SpringRepeats_s0 K x.1 w)
theorem law06_SpringRepeats_s0_se_ok (K : Nat) (R : Rg) (h : subRB [(5, 6), (26, 33)] R = true) : (law06_SpringRepeats_s0_se K).Ok prog R (cd (bodyOf f3) [1, 1, 0]) := stmtN_ok (Li := [(2, .addr)]) (Lo := [(5, .sl)]) (S := (fun x w => law06_SpringRepeats_s0 K x.1 w)) (law06_SpringRepeats_s0_ok K) (subR_of h)
theorem law06_SpringRepeats_s1_ok (K : Nat) : StmtNOk prog [(7, .ptr), (8, .int .i64), (9, .ptr), (10, .int .i64), (11, .ptr), (12, .int .i64)] [(98, .bool)] [(74, 99)] (fun x w => law06_SpringRepeats_s1 K x.1 x.2.1 x.2.2.1 x.2.2.2.1 x.2.2.2.2.1 x.2.2.2.2.2.1 w) (cd (bodyOf f3) [1, 1, 1, 1, 1, 1, 1, 0, 0]) :=
    mk_stmtN (O := tabL []) (root := (bodyOf f3)) (π := [1, 1, 1, 1, 1, 1, 1, 0, 0]) (Li := [(7, .ptr), (8, .int .i64), (9, .ptr), (10, .int .i64), (11, .ptr), (12, .int .i64)]) (Lo := [(98, .bool)]) (S := (fun x w => law06_SpringRepeats_s1 K x.1 x.2.1 x.2.2.1 x.2.2.2.1 x.2.2.2.2.1 x.2.2.2.2.2.1 w)) (law06_SpringRepeats_Eok K) (law06_SpringRepeats_Rok K) rfl (Orc.nil _ _ _) (by kernel_rfl) (fun _ _ => by kernel_rfl)
noncomputable def law06_SpringRepeats_s1_se (K : Nat) : SE := stmtN [(7, .ptr), (8, .int .i64), (9, .ptr), (10, .int .i64), (11, .ptr), (12, .int .i64)] [(98, .bool)] [(74, 99)] (fun x w => law06_SpringRepeats_s1 K x.1 x.2.1 x.2.2.1 x.2.2.2.1 x.2.2.2.2.1 x.2.2.2.2.2.1 w)
theorem law06_SpringRepeats_s1_se_ok (K : Nat) (R : Rg) (h : subRB [(74, 99)] R = true) : (law06_SpringRepeats_s1_se K).Ok prog R (cd (bodyOf f3) [1, 1, 1, 1, 1, 1, 1, 0, 0]) := stmtN_ok (Li := [(7, .ptr), (8, .int .i64), (9, .ptr), (10, .int .i64), (11, .ptr), (12, .int .i64)]) (Lo := [(98, .bool)]) (S := (fun x w => law06_SpringRepeats_s1 K x.1 x.2.1 x.2.2.1 x.2.2.2.1 x.2.2.2.2.1 x.2.2.2.2.2.1 w)) (law06_SpringRepeats_s1_ok K) (subR_of h)
theorem law06_SpringRepeats_s3_ok (K : Nat) : StmtNOk prog [(1, .sl), (14, .int .i64)] [(106, .bool)] [(99, 107)] (fun x w => law06_SpringRepeats_s3 K x.1 x.2.1 w) (cd (bodyOf f3) [1, 1, 1, 1, 1, 1, 1, 1, 1, 0, 1, 0, 0, 0, 0]) :=
    mk_stmtN (O := tabL []) (root := (bodyOf f3)) (π := [1, 1, 1, 1, 1, 1, 1, 1, 1, 0, 1, 0, 0, 0, 0]) (Li := [(1, .sl), (14, .int .i64)]) (Lo := [(106, .bool)]) (S := (fun x w => law06_SpringRepeats_s3 K x.1 x.2.1 w)) (law06_SpringRepeats_Eok K) (law06_SpringRepeats_Rok K) rfl (Orc.nil _ _ _) (by kernel_rfl) (fun _ _ => by kernel_rfl)
noncomputable def law06_SpringRepeats_s3_se (K : Nat) : SE := stmtN [(1, .sl), (14, .int .i64)] [(106, .bool)] [(99, 107)] (fun x w => law06_SpringRepeats_s3 K x.1 x.2.1 w)
theorem law06_SpringRepeats_s3_se_ok (K : Nat) (R : Rg) (h : subRB [(99, 107)] R = true) : (law06_SpringRepeats_s3_se K).Ok prog R (cd (bodyOf f3) [1, 1, 1, 1, 1, 1, 1, 1, 1, 0, 1, 0, 0, 0, 0]) := stmtN_ok (Li := [(1, .sl), (14, .int .i64)]) (Lo := [(106, .bool)]) (S := (fun x w => law06_SpringRepeats_s3 K x.1 x.2.1 w)) (law06_SpringRepeats_s3_ok K) (subR_of h)
theorem law06_SpringRepeats_s4_ok (K : Nat) : StmtNOk prog [(9, .ptr), (11, .ptr), (15, .addr), (16, .int .i64)] [(139, .bool)] [(122, 140)] (fun x w => law06_SpringRepeats_s4 K x.1 x.2.1 x.2.2.1 x.2.2.2.1 w) (cd (bodyOf f3) [1, 1, 1, 1, 1, 1, 1, 1, 1, 0, 1, 0, 0, 1, 0, 0, 1, 0, 1, 0, 1, 0, 0]) :=
    mk_stmtN (O := tabL []) (root := (bodyOf f3)) (π := [1, 1, 1, 1, 1, 1, 1, 1, 1, 0, 1, 0, 0, 1, 0, 0, 1, 0, 1, 0, 1, 0, 0]) (Li := [(9, .ptr), (11, .ptr), (15, .addr), (16, .int .i64)]) (Lo := [(139, .bool)]) (S := (fun x w => law06_SpringRepeats_s4 K x.1 x.2.1 x.2.2.1 x.2.2.2.1 w)) (law06_SpringRepeats_Eok K) (law06_SpringRepeats_Rok K) rfl (Orc.nil _ _ _) (by kernel_rfl) (fun _ _ => by kernel_rfl)
noncomputable def law06_SpringRepeats_s4_se (K : Nat) : SE := stmtN [(9, .ptr), (11, .ptr), (15, .addr), (16, .int .i64)] [(139, .bool)] [(122, 140)] (fun x w => law06_SpringRepeats_s4 K x.1 x.2.1 x.2.2.1 x.2.2.2.1 w)
theorem law06_SpringRepeats_s4_se_ok (K : Nat) (R : Rg) (h : subRB [(122, 140)] R = true) : (law06_SpringRepeats_s4_se K).Ok prog R (cd (bodyOf f3) [1, 1, 1, 1, 1, 1, 1, 1, 1, 0, 1, 0, 0, 1, 0, 0, 1, 0, 1, 0, 1, 0, 0]) := stmtN_ok (Li := [(9, .ptr), (11, .ptr), (15, .addr), (16, .int .i64)]) (Lo := [(139, .bool)]) (S := (fun x w => law06_SpringRepeats_s4 K x.1 x.2.1 x.2.2.1 x.2.2.2.1 w)) (law06_SpringRepeats_s4_ok K) (subR_of h)
theorem law06_SpringRepeats_s5_ok (K : Nat) : StmtNOk prog [(13, .int .i64), (15, .addr)] [(154, .bool)] [(140, 155)] (fun x w => law06_SpringRepeats_s5 K x.1 x.2.1 w) (cd (bodyOf f3) [1, 1, 1, 1, 1, 1, 1, 1, 1, 0, 1, 0, 0, 1, 0, 0, 1, 1, 0, 0]) :=
    mk_stmtN (O := tabL []) (root := (bodyOf f3)) (π := [1, 1, 1, 1, 1, 1, 1, 1, 1, 0, 1, 0, 0, 1, 0, 0, 1, 1, 0, 0]) (Li := [(13, .int .i64), (15, .addr)]) (Lo := [(154, .bool)]) (S := (fun x w => law06_SpringRepeats_s5 K x.1 x.2.1 w)) (law06_SpringRepeats_Eok K) (law06_SpringRepeats_Rok K) rfl (Orc.nil _ _ _) (by kernel_rfl) (fun _ _ => by kernel_rfl)
noncomputable def law06_SpringRepeats_s5_se (K : Nat) : SE := stmtN [(13, .int .i64), (15, .addr)] [(154, .bool)] [(140, 155)] (fun x w => law06_SpringRepeats_s5 K x.1 x.2.1 w)
theorem law06_SpringRepeats_s5_se_ok (K : Nat) (R : Rg) (h : subRB [(140, 155)] R = true) : (law06_SpringRepeats_s5_se K).Ok prog R (cd (bodyOf f3) [1, 1, 1, 1, 1, 1, 1, 1, 1, 0, 1, 0, 0, 1, 0, 0, 1, 1, 0, 0]) := stmtN_ok (Li := [(13, .int .i64), (15, .addr)]) (Lo := [(154, .bool)]) (S := (fun x w => law06_SpringRepeats_s5 K x.1 x.2.1 w)) (law06_SpringRepeats_s5_ok K) (subR_of h)
theorem law06_SpringRepeats_l2_ok (K : Nat) (n : Nat) : StmtOk prog [(1, .sl), (7, .ptr), (9, .ptr), (11, .ptr), (13, .int .i64), (14, .int .i64)] [] [(4, .bool)] [(4, 5), (13, 23), (99, 218)] ((fun n x w => law06_SpringRepeats_l2 K n x.1 x.2.1 x.2.2.1 x.2.2.2.1 x.2.2.2.2.1 x.2.2.2.2.2.1 w) n) (.block 0 (.loop (cd (bodyOf f3) [1, 1, 1, 1, 1, 1, 1, 1, 1, 0, 1, 0, 0]))) :=
    mk_loop (O := tabL [([1, 1, 1, 1, 1, 1, 1, 1, 1, 0, 1, 0, 0, 0, 0], law06_SpringRepeats_s3_se K), ([1, 1, 1, 1, 1, 1, 1, 1, 1, 0, 1, 0, 0, 1, 0, 0, 1, 0, 1, 0, 1, 0, 0], law06_SpringRepeats_s4_se K), ([1, 1, 1, 1, 1, 1, 1, 1, 1, 0, 1, 0, 0, 1, 0, 0, 1, 1, 0, 0], law06_SpringRepeats_s5_se K)]) (root := (bodyOf f3)) (π := [1, 1, 1, 1, 1, 1, 1, 1, 1, 0, 1, 0, 0]) (id := 0) (Li := [(1, .sl), (7, .ptr), (9, .ptr), (11, .ptr), (13, .int .i64), (14, .int .i64)]) (Lo := []) (Lr := [(4, .bool)]) (S := (fun n x w => law06_SpringRepeats_l2 K n x.1 x.2.1 x.2.2.1 x.2.2.2.1 x.2.2.2.2.1 x.2.2.2.2.2.1 w)) (body := cd (bodyOf f3) [1, 1, 1, 1, 1, 1, 1, 1, 1, 0, 1, 0, 0]) (law06_SpringRepeats_Eok K) (law06_SpringRepeats_Rok K) rfl (Orc.cons (by kernel_rfl) (law06_SpringRepeats_s3_se_ok K [(4, 5), (13, 23), (99, 218)] (by kernel_rfl)) (Orc.cons (by kernel_rfl) (law06_SpringRepeats_s4_se_ok K [(4, 5), (13, 23), (99, 218)] (by kernel_rfl)) (Orc.cons (by kernel_rfl) (law06_SpringRepeats_s5_se_ok K [(4, 5), (13, 23), (99, 218)] (by kernel_rfl)) (Orc.nil _ _ _)))) (by kernel_rfl) (fun _ _ => by kernel_rfl) (fun _ _ _ => by kernel_rfl) n
noncomputable def law06_SpringRepeats_l2_se (K : Nat) : SE := stmt [(1, .sl), (7, .ptr), (9, .ptr), (11, .ptr), (13, .int .i64), (14, .int .i64)] [] [(4, .bool)] [(4, 5), (13, 23), (99, 218)] (fun x w => law06_SpringRepeats_l2 K K x.1 x.2.1 x.2.2.1 x.2.2.2.1 x.2.2.2.2.1 x.2.2.2.2.2.1 w)
theorem law06_SpringRepeats_l2_se_ok (K : Nat) (R : Rg) (h : subRB [(4, 5), (13, 23), (99, 218)] R = true) : (law06_SpringRepeats_l2_se K).Ok prog R (.block 0 (.loop (cd (bodyOf f3) [1, 1, 1, 1, 1, 1, 1, 1, 1, 0, 1, 0, 0]))) := stmt_ok (Li := [(1, .sl), (7, .ptr), (9, .ptr), (11, .ptr), (13, .int .i64), (14, .int .i64)]) (Lo := []) (Lr := [(4, .bool)]) (S := (fun x w => law06_SpringRepeats_l2 K K x.1 x.2.1 x.2.2.1 x.2.2.2.1 x.2.2.2.2.1 x.2.2.2.2.2.1 w)) (law06_SpringRepeats_l2_ok K K) (subR_of h)
theorem law06_SpringRepeats_facts : FunFacts prog 3 f3 (bodyOf f3) [(0, .agg), (1, .sl)] [(0, 218)] := ⟨func3, by kernel_rfl, by kernel_rfl, by kernel_rfl, by kernel_rfl, by kernel_rfl⟩
theorem law06_SpringRepeats_calls (K : Nat) {β : Type} (x : TT [(0, .agg), (1, .sl)]) (w : World) (k : TR [.bool] → World → Option β) (r : β) (h : law06_SpringRepeats K x.1 x.2.1 w k = some r) : Calls prog 3 (encA [(0, .agg), (1, .sl)] x).toArray w (fun e w3 => ∃ y, e = .returned (resV (encR [.bool] y)) ∧ k y w3 = some r) :=
    mk_funC (O := tabL [([1, 1, 0], law06_SpringRepeats_s0_se K), ([1, 1, 1, 1, 1, 1, 1, 0, 0], law06_SpringRepeats_s1_se K), ([1, 1, 1, 1, 1, 1, 1, 1, 1, 0, 1], law06_SpringRepeats_l2_se K), ([1, 1, 1, 1, 1, 1, 1, 1, 1, 0, 1, 0, 0, 0, 0], law06_SpringRepeats_s3_se K), ([1, 1, 1, 1, 1, 1, 1, 1, 1, 0, 1, 0, 0, 1, 0, 0, 1, 0, 1, 0, 1, 0, 0], law06_SpringRepeats_s4_se K), ([1, 1, 1, 1, 1, 1, 1, 1, 1, 0, 1, 0, 0, 1, 0, 0, 1, 1, 0, 0], law06_SpringRepeats_s5_se K)]) (Lp := [(0, .agg), (1, .sl)]) (Rt := [.bool]) (S := (fun x w k => law06_SpringRepeats K x.1 x.2.1 w k)) (law06_SpringRepeats_Eok K) (law06_SpringRepeats_Rok K) rfl law06_SpringRepeats_facts (Orc.cons (by kernel_rfl) (law06_SpringRepeats_s0_se_ok K [(0, 218)] (by kernel_rfl)) (Orc.cons (by kernel_rfl) (law06_SpringRepeats_s1_se_ok K [(0, 218)] (by kernel_rfl)) (Orc.cons (by kernel_rfl) (law06_SpringRepeats_l2_se_ok K [(0, 218)] (by kernel_rfl)) (Orc.cons (by kernel_rfl) (law06_SpringRepeats_s3_se_ok K [(0, 218)] (by kernel_rfl)) (Orc.cons (by kernel_rfl) (law06_SpringRepeats_s4_se_ok K [(0, 218)] (by kernel_rfl)) (Orc.cons (by kernel_rfl) (law06_SpringRepeats_s5_se_ok K [(0, 218)] (by kernel_rfl)) (Orc.nil _ _ _))))))) (fun _ _ _ => by kernel_rfl) x w k r h
noncomputable def law06_SpringRepeats_ce (K : Nat) : CE := funC [(0, .agg), (1, .sl)] [.bool] (fun {_} x w k => law06_SpringRepeats K x.1 x.2.1 w k)
theorem law06_SpringRepeats_ok (K : Nat) : (law06_SpringRepeats_ce K).Ok prog 3 := funC_ok (Rt := [.bool]) (S := (fun {_} x w k => law06_SpringRepeats K x.1 x.2.1 w k)) law06_SpringRepeats_facts fun x w k r h => law06_SpringRepeats_calls K x w k r h

noncomputable def spring_Spring_Left_E : List (Nat × CE) := []
theorem spring_Spring_Left_Eok : Env.Ok prog (tab (spring_Spring_Left_E)) := (Env.nil _)
noncomputable def spring_Spring_Left_R : List (Nat × RE) := []
theorem spring_Spring_Left_Rok : REnv.Ok prog (tab (spring_Spring_Left_R)) := (REnv.nil _)
/-- (*coffer/spring.Spring).Left -/
noncomputable def spring_Spring_Left (s0 : Option Addr) (w : World) : Option ((Int × Unit) × World) :=
  if s0.isNone = true then (some ((0, ()), w)) else ((s0).bind fun p_1 =>
  (s0).bind fun p_2 =>
  (ldI .i64 (p_1.add 1) w.drew).bind fun v_3 =>
  (ldI .i64 (p_2.add 2) w.drew).bind fun v_4 =>
  some (((IntKind.i64.wrap (v_3 - v_4)), ()), w.drew))
theorem spring_Spring_Left_facts : FunFacts prog 24 f24 (bodyOf f24) [(0, .ptr)] [(0, 14)] := ⟨func24, by kernel_rfl, by kernel_rfl, by kernel_rfl, by kernel_rfl, by kernel_rfl⟩
theorem spring_Spring_Left_calls (x : TT [(0, .ptr)]) (w : World) (y : TR [.int .i64]) (w2 : World) (h : spring_Spring_Left x.1 w = some (y, w2)) : Calls prog 24 (encA [(0, .ptr)] x).toArray w (fun e w3 => e = .returned (resV (encR [.int .i64] y)) ∧ w3 = w2) :=
    mk_fun (O := tabL []) (Lp := [(0, .ptr)]) (Rt := [.int .i64]) (S := (fun x w => spring_Spring_Left x.1 w)) (spring_Spring_Left_Eok) (spring_Spring_Left_Rok) rfl spring_Spring_Left_facts (Orc.nil _ _ _) (fun _ _ => by kernel_rfl) x w y w2 h
noncomputable def spring_Spring_Left_ce : CE := funE [(0, .ptr)] [.int .i64] (fun x w => spring_Spring_Left x.1 w)
theorem spring_Spring_Left_ok : (spring_Spring_Left_ce).Ok prog 24 := funE_ok (Rt := [.int .i64]) (S := (fun x w => spring_Spring_Left x.1 w)) spring_Spring_Left_facts fun x w y w2 h => spring_Spring_Left_calls x w y w2 h

noncomputable def law06_first_E (K : Nat) : List (Nat × CE) := [(6, spring_New_ce K), (10, spring_Spring_Draw_ce K), (24, spring_Spring_Left_ce)]
theorem law06_first_Eok (K : Nat) : Env.Ok prog (tab (law06_first_E K)) := (Env.cons (spring_New_ok K) (Env.cons (spring_Spring_Draw_ok K) (Env.cons (spring_Spring_Left_ok) (Env.nil _))))
noncomputable def law06_first_R (K : Nat) : List (Nat × RE) := [(7, law06_num_re)]
theorem law06_first_Rok (K : Nat) : REnv.Ok prog (tab (law06_first_R K)) := (REnv.cons (law06_num_ok) (REnv.nil _))
noncomputable def law06_first_s0 (K : Nat) (s1 : Option Addr) (e2 : Int) (w : World) : Option ((Bool × Unit) × World) :=
  (law06_num e2).bind fun r_8 =>
  if (r_8.1 != 0) = true then (some ((true, ()), w)) else (some ((s1.isNone, ()), w))
/-- coffer/cofferlaw06.first -/
noncomputable def law06_first {β : Type} (K : Nat)  (w : World) (k : (Bool × Unit) → World → Option β) : Option β :=
  bnd (bldS prog 22 16 #[(0, (.int .u8 48)), (1, (.int .u8 49)), (2, (.int .u8 50)), (3, (.int .u8 51)), (4, (.int .u8 52)), (5, (.int .u8 53)), (6, (.int .u8 54)), (7, (.int .u8 55)), (8, (.int .u8 56)), (9, (.int .u8 57)), (10, (.int .u8 97)), (11, (.int .u8 98)), (12, (.int .u8 99)), (13, (.int .u8 100)), (14, (.int .u8 101)), (15, (.int .u8 102))] w) fun s_1 w_2 =>
  bnd (cnv prog 22 22 (.slice s_1.a s_1.len s_1.cap) w_2) fun c_3 w_4 =>
  (asS c_3).bind fun v_5 =>
  spring_New K 256 1 v_5 ⟨none, 0, 0⟩ ⟨none, 0, 0⟩ w_4 fun r_6 w_7 =>
  bnd (law06_first_s0 K r_6.1 r_6.2.1 w_7) fun y_9 w_10 =>
  if y_9.1 = true then (k (false, ()) w_10) else (bnd (spring_Spring_Draw K r_6.1 5 ⟨none, 0, 0⟩ w_10) fun r_11 w_12 =>
  (law06_num r_11.2.1).bind fun r_13 =>
  if (r_13.1 == 0) = true then (if (((r_11.1.len : Nat) : Int) == 5) = true then (bnd (spring_Spring_Left r_6.1 w_12) fun r_14 w_15 =>
  k ((r_14.1 == 0), ()) w_15) else (k (false, ()) w_12)) else (k (false, ()) w_12))
theorem law06_first_s0_ok (K : Nat) : StmtNOk prog [(1, .ptr), (2, .int .i64)] [(17, .bool)] [(11, 18)] (fun x w => law06_first_s0 K x.1 x.2.1 w) (cd (bodyOf f12) [1, 1, 0, 0]) :=
    mk_stmtN (O := tabL []) (root := (bodyOf f12)) (π := [1, 1, 0, 0]) (Li := [(1, .ptr), (2, .int .i64)]) (Lo := [(17, .bool)]) (S := (fun x w => law06_first_s0 K x.1 x.2.1 w)) (law06_first_Eok K) (law06_first_Rok K) rfl (Orc.nil _ _ _) (by kernel_rfl) (fun _ _ => by kernel_rfl)
noncomputable def law06_first_s0_se (K : Nat) : SE := stmtN [(1, .ptr), (2, .int .i64)] [(17, .bool)] [(11, 18)] (fun x w => law06_first_s0 K x.1 x.2.1 w)
theorem law06_first_s0_se_ok (K : Nat) (R : Rg) (h : subRB [(11, 18)] R = true) : (law06_first_s0_se K).Ok prog R (cd (bodyOf f12) [1, 1, 0, 0]) := stmtN_ok (Li := [(1, .ptr), (2, .int .i64)]) (Lo := [(17, .bool)]) (S := (fun x w => law06_first_s0 K x.1 x.2.1 w)) (law06_first_s0_ok K) (subR_of h)
theorem law06_first_facts : FunFacts prog 12 f12 (bodyOf f12) [] [(0, 36)] := ⟨func12, by kernel_rfl, by kernel_rfl, by kernel_rfl, by kernel_rfl, by kernel_rfl⟩
theorem law06_first_calls (K : Nat) {β : Type} (x : TT []) (w : World) (k : TR [.bool] → World → Option β) (r : β) (h : law06_first K  w k = some r) : Calls prog 12 (encA [] x).toArray w (fun e w3 => ∃ y, e = .returned (resV (encR [.bool] y)) ∧ k y w3 = some r) :=
    mk_funC (O := tabL [([1, 1, 0, 0], law06_first_s0_se K)]) (Lp := []) (Rt := [.bool]) (S := (fun x w k => law06_first K  w k)) (law06_first_Eok K) (law06_first_Rok K) rfl law06_first_facts (Orc.cons (by kernel_rfl) (law06_first_s0_se_ok K [(0, 36)] (by kernel_rfl)) (Orc.nil _ _ _)) (fun _ _ _ => by kernel_rfl) x w k r h
noncomputable def law06_first_ce (K : Nat) : CE := funC [] [.bool] (fun {_} x w k => law06_first K  w k)
theorem law06_first_ok (K : Nat) : (law06_first_ce K).Ok prog 12 := funC_ok (Rt := [.bool]) (S := (fun {_} x w k => law06_first K  w k)) law06_first_facts fun x w k r h => law06_first_calls K x w k r h

noncomputable def book_Bytes_E (K : Nat) : List (Nat × CE) := []
theorem book_Bytes_Eok (K : Nat) : Env.Ok prog (tab (book_Bytes_E K)) := (Env.nil _)
noncomputable def book_Bytes_R (K : Nat) : List (Nat × RE) := []
theorem book_Bytes_Rok (K : Nat) : REnv.Ok prog (tab (book_Bytes_R K)) := (REnv.nil _)
noncomputable def book_Bytes_l0_b (K : Nat) (rec : Sl → Sl → Int → World → Option ((Sl × Unit) × World)) (l0 : Sl) (c3 : Sl) (i4 : Int) (w : World) : Option ((Sl × Unit) × World) :=
  if (decide (i4 < 70)) = true then (bnd (bldS prog 22 1 #[(0, (.int .u8 (IntKind.u8.wrap (IntKind.i64.wrap (181 + i4)))))] w) fun s_3 w_4 =>
  bnd (apd prog 22 22 (.slice c3.a c3.len c3.cap) (.slice s_3.a s_3.len s_3.cap) w_4) fun s_5 w_6 =>
  rec l0 s_5 (IntKind.i64.wrap (i4 + 1)) w_6) else (some ((c3, ()), w))
noncomputable def book_Bytes_l0 (K : Nat) (n : Nat) : Sl → Sl → Int → World → Option ((Sl × Unit) × World) := iter (fun _ _ _ _ => none) (book_Bytes_l0_b K) n
/-- coffer/cofferbook.Bytes -/
noncomputable def book_Bytes (K : Nat) (l0 : Sl) (w : World) : Option ((Sl × Unit) × World) :=
  bnd (apd prog 22 22 (.slice none 0 0) (.slice l0.a l0.len l0.cap) w) fun s_1 w_2 =>
  bnd (book_Bytes_l0 K K l0 s_1 0 w_2) fun y_7 w_8 =>
  if (0 : Int) ≤ ((l0.len : Nat) : Int) ∧ ((l0.len : Nat) : Int) ≤ ((y_7.1.cap : Nat) : Int) then (some ((⟨(sla y_7.1.a 0 y_7.1.cap 1), ((Int.toNat (((l0.len : Nat) : Int))) - 0), (y_7.1.cap - 0)⟩, ()), w_8)) else none
theorem book_Bytes_l0_ok (K : Nat) (n : Nat) : StmtNOk prog [(0, .sl), (3, .sl), (4, .int .i64)] [(3, .sl)] [(3, 5), (9, 19)] ((fun n x w => book_Bytes_l0 K n x.1 x.2.1 x.2.2.1 w) n) (.block 0 (.loop (cd (bodyOf f25) [1, 1, 1, 0, 1, 0, 0]))) :=
    mk_loopN (O := tabL []) (root := (bodyOf f25)) (π := [1, 1, 1, 0, 1, 0, 0]) (id := 0) (Li := [(0, .sl), (3, .sl), (4, .int .i64)]) (Lo := [(3, .sl)]) (S := (fun n x w => book_Bytes_l0 K n x.1 x.2.1 x.2.2.1 w)) (body := cd (bodyOf f25) [1, 1, 1, 0, 1, 0, 0]) (book_Bytes_Eok K) (book_Bytes_Rok K) rfl (Orc.nil _ _ _) (by kernel_rfl) (fun _ _ => by kernel_rfl) (fun _ _ _ => by kernel_rfl) n
noncomputable def book_Bytes_l0_se (K : Nat) : SE := stmtN [(0, .sl), (3, .sl), (4, .int .i64)] [(3, .sl)] [(3, 5), (9, 19)] (fun x w => book_Bytes_l0 K K x.1 x.2.1 x.2.2.1 w)
theorem book_Bytes_l0_se_ok (K : Nat) (R : Rg) (h : subRB [(3, 5), (9, 19)] R = true) : (book_Bytes_l0_se K).Ok prog R (.block 0 (.loop (cd (bodyOf f25) [1, 1, 1, 0, 1, 0, 0]))) := stmtN_ok (Li := [(0, .sl), (3, .sl), (4, .int .i64)]) (Lo := [(3, .sl)]) (S := (fun x w => book_Bytes_l0 K K x.1 x.2.1 x.2.2.1 w)) (book_Bytes_l0_ok K K) (subR_of h)
theorem book_Bytes_facts : FunFacts prog 25 f25 (bodyOf f25) [(0, .sl)] [(0, 24)] := ⟨func25, by kernel_rfl, by kernel_rfl, by kernel_rfl, by kernel_rfl, by kernel_rfl⟩
theorem book_Bytes_calls (K : Nat) (x : TT [(0, .sl)]) (w : World) (y : TR [.sl]) (w2 : World) (h : book_Bytes K x.1 w = some (y, w2)) : Calls prog 25 (encA [(0, .sl)] x).toArray w (fun e w3 => e = .returned (resV (encR [.sl] y)) ∧ w3 = w2) :=
    mk_fun (O := tabL [([1, 1, 1, 0, 1], book_Bytes_l0_se K)]) (Lp := [(0, .sl)]) (Rt := [.sl]) (S := (fun x w => book_Bytes K x.1 w)) (book_Bytes_Eok K) (book_Bytes_Rok K) rfl book_Bytes_facts (Orc.cons (by kernel_rfl) (book_Bytes_l0_se_ok K [(0, 24)] (by kernel_rfl)) (Orc.nil _ _ _)) (fun _ _ => by kernel_rfl) x w y w2 h
noncomputable def book_Bytes_ce (K : Nat) : CE := funE [(0, .sl)] [.sl] (fun x w => book_Bytes K x.1 w)
theorem book_Bytes_ok (K : Nat) : (book_Bytes_ce K).Ok prog 25 := funE_ok (Rt := [.sl]) (S := (fun x w => book_Bytes K x.1 w)) book_Bytes_facts fun x w y w2 h => book_Bytes_calls K x w y w2 h

noncomputable def ref01_Size_R : List (Nat × RE) := []
theorem ref01_Size_Rok : REnv.Ok prog (tab (ref01_Size_R)) := (REnv.nil _)
/-- coffer/cofferref01.Size -/
noncomputable def ref01_Size (hash0 : Int) : Option (Int × Unit) :=
  if (hash0 == 224) = true then (some ((IntKind.i64.wrap (Int.tdiv hash0 8)), ())) else (if (hash0 == 256) = true then (some ((IntKind.i64.wrap (Int.tdiv hash0 8)), ())) else (if (hash0 == 384) = true then (some ((IntKind.i64.wrap (Int.tdiv hash0 8)), ())) else (if (hash0 == 512) = true then (some ((IntKind.i64.wrap (Int.tdiv hash0 8)), ())) else (some (0, ())))))
theorem ref01_Size_facts : FunFacts prog 42 f42 (bodyOf f42) [(0, .int .i64)] [(0, 11)] := ⟨func42, by kernel_rfl, by kernel_rfl, by kernel_rfl, by kernel_rfl, by kernel_rfl⟩
theorem ref01_Size_calls (x : TT [(0, .int .i64)]) (w : World) (y : TR [.int .i64]) (h : ref01_Size x.1 = some y) : Calls prog 42 (encA [(0, .int .i64)] x).toArray w (fun e w3 => e = .returned (resV (encR [.int .i64] y)) ∧ w3 = w) :=
    mk_funQ (O := tabL []) (Lp := [(0, .int .i64)]) (Rt := [.int .i64]) (S := (fun x w => ref01_Size x.1)) (ref01_Size_Rok) ref01_Size_facts (OrcQ.nil _ _ _) (fun _ _ => by kernel_rfl) x w y h
noncomputable def ref01_Size_re : RE := funR [(0, .int .i64)] [.int .i64] (fun x w => ref01_Size x.1)
theorem ref01_Size_ok : (ref01_Size_re).Ok prog 42 := funR_ok (Rt := [.int .i64]) (S := (fun x w => ref01_Size x.1)) ref01_Size_facts fun x w y h => ref01_Size_calls x w y h

noncomputable def ref06_joined_E (K : Nat) : List (Nat × CE) := []
theorem ref06_joined_Eok (K : Nat) : Env.Ok prog (tab (ref06_joined_E K)) := (Env.nil _)
noncomputable def ref06_joined_R (K : Nat) : List (Nat × RE) := []
theorem ref06_joined_Rok (K : Nat) : REnv.Ok prog (tab (ref06_joined_R K)) := (REnv.nil _)
noncomputable def ref06_joined_l0_b (K : Nat) (rec : Sl → Sl → Int → World → Option ((Sl × Unit) × World)) (l0 : Sl) (out3 : Sl) (i4 : Int) (w : World) : Option ((Sl × Unit) × World) :=
  if (decide (i4 < ((l0.len : Nat) : Int))) = true then ((l0.a).bind fun p_1 =>
  if (0 : Int) ≤ i4 ∧ i4 < ((l0.len : Nat) : Int) then ((ldS (p_1.add ((Int.toNat i4) * 1)) w).bind fun v_2 =>
  bnd (apd prog 22 22 (.slice out3.a out3.len out3.cap) (.slice v_2.a v_2.len v_2.cap) w) fun s_3 w_4 =>
  rec l0 s_3 (IntKind.i64.wrap (i4 + 1)) w_4) else none) else (some ((out3, ()), w))
noncomputable def ref06_joined_l0 (K : Nat) (n : Nat) : Sl → Sl → Int → World → Option ((Sl × Unit) × World) := iter (fun _ _ _ _ => none) (ref06_joined_l0_b K) n
/-- coffer/cofferref06.joined -/
noncomputable def ref06_joined (K : Nat) (l0 : Sl) (w : World) : Option ((Sl × Unit) × World) :=
  bnd (ref06_joined_l0 K K l0 ⟨none, 0, 0⟩ 0 w) fun y_5 w_6 =>
  some ((y_5.1, ()), w_6)
theorem ref06_joined_l0_ok (K : Nat) (n : Nat) : StmtNOk prog [(0, .sl), (3, .sl), (4, .int .i64)] [(3, .sl)] [(3, 17)] ((fun n x w => ref06_joined_l0 K n x.1 x.2.1 x.2.2.1 w) n) (.block 0 (.loop (cd (bodyOf f43) [1, 1, 0, 1, 0, 0]))) :=
    mk_loopN (O := tabL []) (root := (bodyOf f43)) (π := [1, 1, 0, 1, 0, 0]) (id := 0) (Li := [(0, .sl), (3, .sl), (4, .int .i64)]) (Lo := [(3, .sl)]) (S := (fun n x w => ref06_joined_l0 K n x.1 x.2.1 x.2.2.1 w)) (body := cd (bodyOf f43) [1, 1, 0, 1, 0, 0]) (ref06_joined_Eok K) (ref06_joined_Rok K) rfl (Orc.nil _ _ _) (by kernel_rfl) (fun _ _ => by kernel_rfl) (fun _ _ _ => by kernel_rfl) n
noncomputable def ref06_joined_l0_se (K : Nat) : SE := stmtN [(0, .sl), (3, .sl), (4, .int .i64)] [(3, .sl)] [(3, 17)] (fun x w => ref06_joined_l0 K K x.1 x.2.1 x.2.2.1 w)
theorem ref06_joined_l0_se_ok (K : Nat) (R : Rg) (h : subRB [(3, 17)] R = true) : (ref06_joined_l0_se K).Ok prog R (.block 0 (.loop (cd (bodyOf f43) [1, 1, 0, 1, 0, 0]))) := stmtN_ok (Li := [(0, .sl), (3, .sl), (4, .int .i64)]) (Lo := [(3, .sl)]) (S := (fun x w => ref06_joined_l0 K K x.1 x.2.1 x.2.2.1 w)) (ref06_joined_l0_ok K K) (subR_of h)
theorem ref06_joined_facts : FunFacts prog 43 f43 (bodyOf f43) [(0, .sl)] [(0, 18)] := ⟨func43, by kernel_rfl, by kernel_rfl, by kernel_rfl, by kernel_rfl, by kernel_rfl⟩
theorem ref06_joined_calls (K : Nat) (x : TT [(0, .sl)]) (w : World) (y : TR [.sl]) (w2 : World) (h : ref06_joined K x.1 w = some (y, w2)) : Calls prog 43 (encA [(0, .sl)] x).toArray w (fun e w3 => e = .returned (resV (encR [.sl] y)) ∧ w3 = w2) :=
    mk_fun (O := tabL [([1, 1, 0, 1], ref06_joined_l0_se K)]) (Lp := [(0, .sl)]) (Rt := [.sl]) (S := (fun x w => ref06_joined K x.1 w)) (ref06_joined_Eok K) (ref06_joined_Rok K) rfl ref06_joined_facts (Orc.cons (by kernel_rfl) (ref06_joined_l0_se_ok K [(0, 18)] (by kernel_rfl)) (Orc.nil _ _ _)) (fun _ _ => by kernel_rfl) x w y w2 h
noncomputable def ref06_joined_ce (K : Nat) : CE := funE [(0, .sl)] [.sl] (fun x w => ref06_joined K x.1 w)
theorem ref06_joined_ok (K : Nat) : (ref06_joined_ce K).Ok prog 43 := funE_ok (Rt := [.sl]) (S := (fun x w => ref06_joined K x.1 w)) ref06_joined_facts fun x w y w2 h => ref06_joined_calls K x w y w2 h

noncomputable def ref01_Block_R : List (Nat × RE) := []
theorem ref01_Block_Rok : REnv.Ok prog (tab (ref01_Block_R)) := (REnv.nil _)
noncomputable def ref01_Block_s0 (a3 : Int) (a4 : Bool) : Option (Out (Bool × Unit) (Int × Unit)) :=
  if a4 = true then (some (.norm (true, ()))) else (some (.norm ((a3 == 256), ())))
/-- coffer/cofferref01.Block -/
noncomputable def ref01_Block (hash0 : Int) : Option (Int × Unit) :=
  (ref01_Block_s0 hash0 (hash0 == 224)).bind fun y_1 =>
  (match y_1 with
  | .norm z_2n => (if z_2n.1 = true then (some (64, ())) else (if (hash0 == 384) = true then (some (128, ())) else (if (hash0 == 512) = true then (some (128, ())) else (some (0, ())))))
  | .ret z_2r => (some (z_2r.1, ())))
theorem ref01_Block_s0_ok : StmtQOk prog [(3, .int .i64), (4, .bool)] [(4, .bool)] [(2, .int .i64)] [(4, 5), (6, 7)] (fun x w => ref01_Block_s0 x.1 x.2.1) (cd (bodyOf f53) [1, 0, 1, 0, 0, 1]) :=
    mk_stmtQ (O := tabL []) (root := (bodyOf f53)) (π := [1, 0, 1, 0, 0, 1]) (Li := [(3, .int .i64), (4, .bool)]) (Lo := [(4, .bool)]) (Lr := [(2, .int .i64)]) (S := (fun x w => ref01_Block_s0 x.1 x.2.1)) (ref01_Block_Rok) (OrcQ.nil _ _ _) (by kernel_rfl) (fun _ _ => by kernel_rfl)
noncomputable def ref01_Block_s0_se : SQ := stmtQ [(3, .int .i64), (4, .bool)] [(4, .bool)] [(2, .int .i64)] [(4, 5), (6, 7)] (fun x w => ref01_Block_s0 x.1 x.2.1)
theorem ref01_Block_s0_se_ok (R : Rg) (h : subRB [(4, 5), (6, 7)] R = true) : (ref01_Block_s0_se).Ok prog R (cd (bodyOf f53) [1, 0, 1, 0, 0, 1]) := stmtQ_ok (Li := [(3, .int .i64), (4, .bool)]) (Lo := [(4, .bool)]) (Lr := [(2, .int .i64)]) (S := (fun x w => ref01_Block_s0 x.1 x.2.1)) (ref01_Block_s0_ok) (subR_of h)
theorem ref01_Block_facts : FunFacts prog 53 f53 (bodyOf f53) [(0, .int .i64)] [(0, 10)] := ⟨func53, by kernel_rfl, by kernel_rfl, by kernel_rfl, by kernel_rfl, by kernel_rfl⟩
theorem ref01_Block_calls (x : TT [(0, .int .i64)]) (w : World) (y : TR [.int .i64]) (h : ref01_Block x.1 = some y) : Calls prog 53 (encA [(0, .int .i64)] x).toArray w (fun e w3 => e = .returned (resV (encR [.int .i64] y)) ∧ w3 = w) :=
    mk_funQ (O := tabL [([1, 0, 1, 0, 0, 1], ref01_Block_s0_se)]) (Lp := [(0, .int .i64)]) (Rt := [.int .i64]) (S := (fun x w => ref01_Block x.1)) (ref01_Block_Rok) ref01_Block_facts (OrcQ.cons (by kernel_rfl) (ref01_Block_s0_se_ok [(0, 10)] (by kernel_rfl)) (OrcQ.nil _ _ _)) (fun _ _ => by kernel_rfl) x w y h
noncomputable def ref01_Block_re : RE := funR [(0, .int .i64)] [.int .i64] (fun x w => ref01_Block x.1)
theorem ref01_Block_ok : (ref01_Block_re).Ok prog 53 := funR_ok (Rt := [.int .i64]) (S := (fun x w => ref01_Block x.1)) ref01_Block_facts fun x w y h => ref01_Block_calls x w y h

end Go.Sh
