/- Texts of this claim, put together: Sh2, Sh3 -/
import Derived.Test.YtchiihkiiofhcaaDoorAllShgahgag
/- What functions of the program do, as Lean functions; that the machine does just that. Printed by shal.py, a program of this claim's writer. -/
set_option maxRecDepth 100000
set_option linter.unusedVariables false
namespace Go.Sh
open Go.Fw Go.Proofs.Tryd

noncomputable def digest_state_end_E (K : Nat) : List (Nat × CE) := [(54, digest_state_take_ce K), (62, digest_big_ce K)]
theorem digest_state_end_Eok (K : Nat) : Env.Ok prog (tab (digest_state_end_E K)) := (Env.cons (digest_state_take_ok K) (Env.cons (digest_big_ok K) (Env.nil _)))
noncomputable def digest_state_end_R (K : Nat) : List (Nat × RE) := []
theorem digest_state_end_Rok (K : Nat) : REnv.Ok prog (tab (digest_state_end_R K)) := (REnv.nil _)
noncomputable def digest_state_end_l0_b (K : Nat) (rec : Addr → Int → Addr → Int → World → Option ((Int × Unit) × World)) (s1 : Addr) (bits3 : Int) (pad4 : Addr) (n5 : Int) (w : World) : Option ((Int × Unit) × World) :=
  (ldI .u64 (s1.add 5) w.drew).bind fun v_7 =>
  (ldI .i64 ((s1.add 0).add 1) w.drew).bind fun v_8 =>
  if (IntKind.u64.wrap v_8) ≠ 0 then ((ldI .i64 ((s1.add 0).add 2) w.drew).bind fun v_9 =>
  (ldI .i64 ((s1.add 0).add 1) w.drew).bind fun v_10 =>
  if v_10 ≠ 0 then (if ((Int.tmod (IntKind.i64.wrap ((IntKind.i64.wrap ((IntKind.i64.wrap (Int.tmod v_7 (IntKind.u64.wrap v_8))) + n5)) + (IntKind.i64.wrap (2 * v_9)))) v_10) != 0) = true then (rec s1 bits3 pad4 (IntKind.i64.wrap (n5 + 1)) w.drew) else (some ((n5, ()), w.drew))) else none) else none
noncomputable def digest_state_end_l0 (K : Nat) (n : Nat) : Addr → Int → Addr → Int → World → Option ((Int × Unit) × World) := iter (fun _ _ _ _ _ => none) (digest_state_end_l0_b K) n
noncomputable def digest_state_end_l1_b (K : Nat) (rec : Addr → Int → Addr → Int → Int → World → Option ((Unit) × World)) (s1 : Addr) (bits3 : Int) (pad4 : Addr) (n5 : Int) (a42 : Int) (w : World) : Option ((Unit) × World) :=
  if (decide (a42 < 8)) = true then (if (0 : Int) ≤ (IntKind.i64.wrap (8 * a42)) then (if (0 : Int) ≤ (IntKind.i64.wrap ((IntKind.i64.wrap (n5 - 1)) - a42)) ∧ (IntKind.i64.wrap ((IntKind.i64.wrap (n5 - 1)) - a42)) < ((256 : Nat) : Int) then ((stC (pad4.add ((Int.toNat (IntKind.i64.wrap ((IntKind.i64.wrap (n5 - 1)) - a42))) * 1)) (.int .u8 (IntKind.u8.wrap (Int.fdiv bits3 (2 ^ (min (Int.toNat (IntKind.i64.wrap (8 * a42))) IntKind.u64.bits))))) w).bind fun w_14 =>
  rec s1 bits3 pad4 n5 (IntKind.i64.wrap (a42 + 1)) w_14) else none) else none) else (some ((), w))
noncomputable def digest_state_end_l1 (K : Nat) (n : Nat) : Addr → Int → Addr → Int → Int → World → Option ((Unit) × World) := iter (fun _ _ _ _ _ _ => none) (digest_state_end_l1_b K) n
noncomputable def digest_state_end_l2_b (K : Nat) (rec : Addr → Sl → Array Value → Int → World → Option ((Sl × Unit) × World)) (s1 : Addr) (out7 : Sl) (a61 : Array Value) (a62 : Int) (w : World) : Option ((Sl × Unit) × World) :=
  if (decide (a62 < 8)) = true then (if (0 : Int) ≤ a62 ∧ a62 < ((8 : Nat) : Int) then ((a61[((Int.toNat a62) * 1)]?).bind fun v_22 =>
  (asI .u64 v_22).bind fun v_23 =>
  (ldI .i64 ((s1.add 0).add 2) w).bind fun v_24 =>
  bnd (digest_big K out7 v_23 v_24 w) fun r_25 w_26 =>
  rec s1 r_25.1 a61 (IntKind.i64.wrap (a62 + 1)) w_26) else none) else (some ((out7, ()), w))
noncomputable def digest_state_end_l2 (K : Nat) (n : Nat) : Addr → Sl → Array Value → Int → World → Option ((Sl × Unit) × World) := iter (fun _ _ _ _ _ => none) (digest_state_end_l2_b K) n
/-- (coffer/digest.state).end -/
noncomputable def digest_state_end (K : Nat) (s0 : Array Value) (w : World) : Option ((Sl × Unit) × World) :=
  bnd (newB s0 91 w) fun p_1 w_2 =>
  (ldI .u64 (p_1.add 5) w_2).bind fun v_3 =>
  bnd (newB z110 110 w_2) fun pad_4 w_5 =>
  (stC (pad_4.add (0 * 1)) (.int .u8 128) w_5).bind fun w_6 =>
  bnd (digest_state_end_l0 K K p_1 (IntKind.u64.wrap (v_3 * 8)) pad_4 1 w_6) fun y_11 w_12 =>
  (ldI .i64 ((p_1.add 0).add 2) w_12).bind fun v_13 =>
  bnd (digest_state_end_l1 K K p_1 (IntKind.u64.wrap (v_3 * 8)) pad_4 (IntKind.i64.wrap (y_11.1 + (IntKind.i64.wrap (2 * v_13)))) 0 w_12) fun y_15 w_16 =>
  if (0 : Int) ≤ (IntKind.i64.wrap (y_11.1 + (IntKind.i64.wrap (2 * v_13)))) ∧ (IntKind.i64.wrap (y_11.1 + (IntKind.i64.wrap (2 * v_13)))) ≤ ((256 : Nat) : Int) then (bnd (digest_state_take K (some p_1) ⟨(sla (some pad_4) 0 256 1), ((Int.toNat ((IntKind.i64.wrap (y_11.1 + (IntKind.i64.wrap (2 * v_13)))))) - 0), (256 - 0)⟩ w_16) fun r_17 w_18 =>
  bnd (mkS prog 22 (.int .i64 0) (.int .i64 64) w_18) fun s_19 w_20 =>
  (ldA 8 (p_1.add 6) w_20).bind fun v_21 =>
  bnd (digest_state_end_l2 K K p_1 s_19 v_21 0 w_20) fun y_27 w_28 =>
  (ldI .i64 ((p_1.add 0).add 0) w_28).bind fun v_29 =>
  (ldI .i64 ((p_1.add 0).add 0) w_28).bind fun v_30 =>
  if (0 : Int) ≤ v_30 ∧ v_30 ≤ ((y_27.1.cap : Nat) : Int) then (if (0 : Int) ≤ v_29 ∧ v_29 ≤ (((Int.toNat (v_30)) : Nat) : Int) then (some ((⟨(sla y_27.1.a 0 (Int.toNat (v_30)) 1), ((Int.toNat (v_29)) - 0), ((Int.toNat (v_30)) - 0)⟩, ()), w_28)) else none) else none) else none
theorem digest_state_end_l0_ok (K : Nat) (n : Nat) : StmtNOk prog [(1, .addr), (3, .int .u64), (4, .addr), (5, .int .i64)] [(5, .int .i64)] [(5, 6), (14, 36)] ((fun n x w => digest_state_end_l0 K n x.1 x.2.1 x.2.2.1 x.2.2.2.1 w) n) (.block 0 (.loop (cd (bodyOf f60) [1, 1, 1, 1, 1, 0, 0, 0]))) :=
    mk_loopN (O := tabL []) (root := (bodyOf f60)) (π := [1, 1, 1, 1, 1, 0, 0, 0]) (id := 0) (Li := [(1, .addr), (3, .int .u64), (4, .addr), (5, .int .i64)]) (Lo := [(5, .int .i64)]) (S := (fun n x w => digest_state_end_l0 K n x.1 x.2.1 x.2.2.1 x.2.2.2.1 w)) (body := cd (bodyOf f60) [1, 1, 1, 1, 1, 0, 0, 0]) (digest_state_end_Eok K) (digest_state_end_Rok K) rfl (Orc.nil _ _ _) (by kernel_rfl) (fun _ _ => by kernel_rfl) (fun _ _ _ => by kernel_rfl) n
noncomputable def digest_state_end_l0_se (K : Nat) : SE := stmtN [(1, .addr), (3, .int .u64), (4, .addr), (5, .int .i64)] [(5, .int .i64)] [(5, 6), (14, 36)] (fun x w => digest_state_end_l0 K K x.1 x.2.1 x.2.2.1 x.2.2.2.1 w)
theorem digest_state_end_l0_se_ok (K : Nat) (R : Rg) (h : subRB [(5, 6), (14, 36)] R = true) : (digest_state_end_l0_se K).Ok prog R (.block 0 (.loop (cd (bodyOf f60) [1, 1, 1, 1, 1, 0, 0, 0]))) := stmtN_ok (Li := [(1, .addr), (3, .int .u64), (4, .addr), (5, .int .i64)]) (Lo := [(5, .int .i64)]) (S := (fun x w => digest_state_end_l0 K K x.1 x.2.1 x.2.2.1 x.2.2.2.1 w)) (digest_state_end_l0_ok K K) (subR_of h)
theorem digest_state_end_l1_ok (K : Nat) (n : Nat) : StmtNOk prog [(1, .addr), (3, .int .u64), (4, .addr), (5, .int .i64), (42, .int .i64)] [] [(6, 7), (42, 56)] ((fun n x w => digest_state_end_l1 K n x.1 x.2.1 x.2.2.1 x.2.2.2.1 x.2.2.2.2.1 w) n) (.block 2 (.loop (cd (bodyOf f60) [1, 1, 1, 1, 1, 1, 1, 0, 1, 0, 0]))) :=
    mk_loopN (O := tabL []) (root := (bodyOf f60)) (π := [1, 1, 1, 1, 1, 1, 1, 0, 1, 0, 0]) (id := 2) (Li := [(1, .addr), (3, .int .u64), (4, .addr), (5, .int .i64), (42, .int .i64)]) (Lo := []) (S := (fun n x w => digest_state_end_l1 K n x.1 x.2.1 x.2.2.1 x.2.2.2.1 x.2.2.2.2.1 w)) (body := cd (bodyOf f60) [1, 1, 1, 1, 1, 1, 1, 0, 1, 0, 0]) (digest_state_end_Eok K) (digest_state_end_Rok K) rfl (Orc.nil _ _ _) (by kernel_rfl) (fun _ _ => by kernel_rfl) (fun _ _ _ => by kernel_rfl) n
noncomputable def digest_state_end_l1_se (K : Nat) : SE := stmtN [(1, .addr), (3, .int .u64), (4, .addr), (5, .int .i64), (42, .int .i64)] [] [(6, 7), (42, 56)] (fun x w => digest_state_end_l1 K K x.1 x.2.1 x.2.2.1 x.2.2.2.1 x.2.2.2.2.1 w)
theorem digest_state_end_l1_se_ok (K : Nat) (R : Rg) (h : subRB [(6, 7), (42, 56)] R = true) : (digest_state_end_l1_se K).Ok prog R (.block 2 (.loop (cd (bodyOf f60) [1, 1, 1, 1, 1, 1, 1, 0, 1, 0, 0]))) := stmtN_ok (Li := [(1, .addr), (3, .int .u64), (4, .addr), (5, .int .i64), (42, .int .i64)]) (Lo := []) (S := (fun x w => digest_state_end_l1 K K x.1 x.2.1 x.2.2.1 x.2.2.2.1 x.2.2.2.2.1 w)) (digest_state_end_l1_ok K K) (subR_of h)
theorem digest_state_end_l2_ok (K : Nat) (n : Nat) : StmtNOk prog [(1, .addr), (7, .sl), (61, .agg), (62, .int .i64)] [(7, .sl)] [(7, 8), (9, 10), (62, 72)] ((fun n x w => digest_state_end_l2 K n x.1 x.2.1 x.2.2.1 x.2.2.2.1 w) n) (.block 4 (.loop (cd (bodyOf f60) [1, 1, 1, 1, 1, 1, 1, 1, 1, 1, 0, 1, 0, 0]))) :=
    mk_loopN (O := tabL []) (root := (bodyOf f60)) (π := [1, 1, 1, 1, 1, 1, 1, 1, 1, 1, 0, 1, 0, 0]) (id := 4) (Li := [(1, .addr), (7, .sl), (61, .agg), (62, .int .i64)]) (Lo := [(7, .sl)]) (S := (fun n x w => digest_state_end_l2 K n x.1 x.2.1 x.2.2.1 x.2.2.2.1 w)) (body := cd (bodyOf f60) [1, 1, 1, 1, 1, 1, 1, 1, 1, 1, 0, 1, 0, 0]) (digest_state_end_Eok K) (digest_state_end_Rok K) rfl (Orc.nil _ _ _) (by kernel_rfl) (fun _ _ => by kernel_rfl) (fun _ _ _ => by kernel_rfl) n
noncomputable def digest_state_end_l2_se (K : Nat) : SE := stmtN [(1, .addr), (7, .sl), (61, .agg), (62, .int .i64)] [(7, .sl)] [(7, 8), (9, 10), (62, 72)] (fun x w => digest_state_end_l2 K K x.1 x.2.1 x.2.2.1 x.2.2.2.1 w)
theorem digest_state_end_l2_se_ok (K : Nat) (R : Rg) (h : subRB [(7, 8), (9, 10), (62, 72)] R = true) : (digest_state_end_l2_se K).Ok prog R (.block 4 (.loop (cd (bodyOf f60) [1, 1, 1, 1, 1, 1, 1, 1, 1, 1, 0, 1, 0, 0]))) := stmtN_ok (Li := [(1, .addr), (7, .sl), (61, .agg), (62, .int .i64)]) (Lo := [(7, .sl)]) (S := (fun x w => digest_state_end_l2 K K x.1 x.2.1 x.2.2.1 x.2.2.2.1 w)) (digest_state_end_l2_ok K K) (subR_of h)
theorem digest_state_end_facts : FunFacts prog 60 f60 (bodyOf f60) [(0, .agg)] [(0, 80)] := ⟨func60, by kernel_rfl, by kernel_rfl, by kernel_rfl, by kernel_rfl, by kernel_rfl⟩
theorem digest_state_end_calls (K : Nat) (x : TT [(0, .agg)]) (w : World) (y : TR [.sl]) (w2 : World) (h : digest_state_end K x.1 w = some (y, w2)) : Calls prog 60 (encA [(0, .agg)] x).toArray w (fun e w3 => e = .returned (resV (encR [.sl] y)) ∧ w3 = w2) :=
    mk_fun (O := tabL [([1, 1, 1, 1, 1, 0], digest_state_end_l0_se K), ([1, 1, 1, 1, 1, 1, 1, 0, 1], digest_state_end_l1_se K), ([1, 1, 1, 1, 1, 1, 1, 1, 1, 1, 0, 1], digest_state_end_l2_se K)]) (Lp := [(0, .agg)]) (Rt := [.sl]) (S := (fun x w => digest_state_end K x.1 w)) (digest_state_end_Eok K) (digest_state_end_Rok K) rfl digest_state_end_facts (Orc.cons (by kernel_rfl) (digest_state_end_l0_se_ok K [(0, 80)] (by kernel_rfl)) (Orc.cons (by kernel_rfl) (digest_state_end_l1_se_ok K [(0, 80)] (by kernel_rfl)) (Orc.cons (by kernel_rfl) (digest_state_end_l2_se_ok K [(0, 80)] (by kernel_rfl)) (Orc.nil _ _ _)))) (fun _ _ => by kernel_rfl) x w y w2 h
noncomputable def digest_state_end_ce (K : Nat) : CE := funE [(0, .agg)] [.sl] (fun x w => digest_state_end K x.1 w)
theorem digest_state_end_ok (K : Nat) : (digest_state_end_ce K).Ok prog 60 := funE_ok (Rt := [.sl]) (S := (fun x w => digest_state_end K x.1 w)) digest_state_end_facts fun x w y w2 h => digest_state_end_calls K x w y w2 h

noncomputable def digest_key_E (K : Nat) : List (Nat × CE) := [(59, digest_begin_ce K), (54, digest_state_take_ce K), (60, digest_state_end_ce K)]
theorem digest_key_Eok (K : Nat) : Env.Ok prog (tab (digest_key_E K)) := (Env.cons (digest_begin_ok K) (Env.cons (digest_state_take_ok K) (Env.cons (digest_state_end_ok K) (Env.nil _))))
noncomputable def digest_key_R (K : Nat) : List (Nat × RE) := []
theorem digest_key_Rok (K : Nat) : REnv.Ok prog (tab (digest_key_R K)) := (REnv.nil _)
noncomputable def digest_key_s0 (K : Nat) (k1 : Sl) (s6 : Addr) (a26 : Bool) (w : World) : Option ((Sl × Unit) × World) :=
  if a26 = true then ((ldA 142 s6 w).bind fun v_12 =>
  bnd (newB z91 91 w) fun whole_13 w_14 =>
  if (v_12).size = 142 then ((stA whole_13 v_12 w_14).bind fun w_15 =>
  bnd (digest_state_take K (some whole_13) k1 w_15) fun r_16 w_17 =>
  (ldA 142 whole_13 w_17).bind fun v_18 =>
  bnd (digest_state_end K v_18 w_17) fun r_19 w_20 =>
  some ((r_19.1, ()), w_20)) else none) else (some ((k1, ()), w))
noncomputable def digest_key_l1_b (K : Nat) (rec : Addr → Addr → Addr → Addr → Addr → Int → World → Option ((Unit) × World)) (a4 : Addr) (s6 : Addr) (m9 : Addr) (in10 : Addr) (out11 : Addr) (a41 : Int) (w : World) : Option ((Unit) × World) :=
  if (decide (a41 < 128)) = true then (if (0 : Int) ≤ a41 ∧ a41 < ((128 : Nat) : Int) then ((ldI .u8 (in10.add ((Int.toNat a41) * 1)) w).bind fun v_37 =>
  if (0 : Int) ≤ a41 ∧ a41 < ((128 : Nat) : Int) then ((stC (in10.add ((Int.toNat a41) * 1)) (.int .u8 (bits .xor .u8 v_37 54)) w).bind fun w_38 =>
  if (0 : Int) ≤ a41 ∧ a41 < ((128 : Nat) : Int) then ((ldI .u8 (out11.add ((Int.toNat a41) * 1)) w_38).bind fun v_39 =>
  if (0 : Int) ≤ a41 ∧ a41 < ((128 : Nat) : Int) then ((stC (out11.add ((Int.toNat a41) * 1)) (.int .u8 (bits .xor .u8 v_39 92)) w_38).bind fun w_40 =>
  rec a4 s6 m9 in10 out11 (IntKind.i64.wrap (a41 + 1)) w_40) else none) else none) else none) else none) else (some ((), w))
noncomputable def digest_key_l1 (K : Nat) (n : Nat) : Addr → Addr → Addr → Addr → Addr → Int → World → Option ((Unit) × World) := iter (fun _ _ _ _ _ _ _ => none) (digest_key_l1_b K) n
/-- coffer/digest.key -/
noncomputable def digest_key (K : Nat) (hash0 : Int) (k1 : Sl) (w : World) : Option (((Array Value) × Bool × Unit) × World) :=
  bnd (newB z93 93 w) fun p_1 w_2 =>
  bnd (digest_begin K hash0 w_2) fun r_3 w_4 =>
  bnd (newB z91 91 w_4) fun s_5 w_6 =>
  if (r_3.1).size = 142 then ((stA s_5 r_3.1 w_6).bind fun w_7 =>
  if (!r_3.2.1) = true then ((prog.built 93 []).bind fun cs_8 =>
  if (cs_8).size = 284 then ((stA p_1 cs_8 w_7).bind fun w_9 =>
  (ldA 284 p_1 w_9).bind fun res_10 =>
  some ((res_10, false, ()), w_9)) else none) else ((ldI .i64 ((s_5.add 0).add 1) w_7).bind fun v_11 =>
  bnd (digest_key_s0 K k1 s_5 (decide (((k1.len : Nat) : Int) > v_11)) w_7) fun y_21 w_22 =>
  (ldA 142 s_5 w_22).bind fun v_23 =>
  (ldA 142 s_5 w_22).bind fun v_24 =>
  (prog.built 93 [(0, (.agg v_23)), (1, (.agg v_24))]).bind fun cs_25 =>
  bnd (newB z93 93 w_22) fun m_26 w_27 =>
  if (cs_25).size = 284 then ((stA m_26 cs_25 w_27).bind fun w_28 =>
  bnd (newB z89 89 w_28) fun in_29 w_30 =>
  bnd (newB z89 89 w_30) fun out_31 w_32 =>
  bnd (cpy prog 22 22 (.slice (sla (some in_29) 0 128 1) (128 - 0) (128 - 0)) (.slice y_21.1.a y_21.1.len y_21.1.cap) w_32) fun s_33 w_34 =>
  bnd (cpy prog 22 22 (.slice (sla (some out_31) 0 128 1) (128 - 0) (128 - 0)) (.slice y_21.1.a y_21.1.len y_21.1.cap) w_34) fun s_35 w_36 =>
  bnd (digest_key_l1 K K p_1 s_5 m_26 in_29 out_31 0 w_36) fun y_41 w_42 =>
  (ldI .i64 ((s_5.add 0).add 1) w_42).bind fun v_43 =>
  if (0 : Int) ≤ v_43 ∧ v_43 ≤ ((128 : Nat) : Int) then (bnd (digest_state_take K (some (m_26.add 0)) ⟨(sla (some in_29) 0 128 1), ((Int.toNat (v_43)) - 0), (128 - 0)⟩ w_42) fun r_44 w_45 =>
  (ldI .i64 ((s_5.add 0).add 1) w_45).bind fun v_46 =>
  if (0 : Int) ≤ v_46 ∧ v_46 ≤ ((128 : Nat) : Int) then (bnd (digest_state_take K (some (m_26.add 142)) ⟨(sla (some out_31) 0 128 1), ((Int.toNat (v_46)) - 0), (128 - 0)⟩ w_45) fun r_47 w_48 =>
  (ldA 284 m_26 w_48).bind fun v_49 =>
  if (v_49).size = 284 then ((stA p_1 v_49 w_48).bind fun w_50 =>
  (ldA 284 p_1 w_50).bind fun res_51 =>
  some ((res_51, true, ()), w_50)) else none) else none) else none) else none)) else none
theorem digest_key_s0_ok (K : Nat) : StmtNOk prog [(1, .sl), (6, .addr), (26, .bool)] [(1, .sl)] [(1, 2), (8, 9), (27, 32)] (fun x w => digest_key_s0 K x.1 x.2.1 x.2.2.1 w) (cd (bodyOf f52) [1, 1, 1, 0, 1]) :=
    mk_stmtN (O := tabL []) (root := (bodyOf f52)) (π := [1, 1, 1, 0, 1]) (Li := [(1, .sl), (6, .addr), (26, .bool)]) (Lo := [(1, .sl)]) (S := (fun x w => digest_key_s0 K x.1 x.2.1 x.2.2.1 w)) (digest_key_Eok K) (digest_key_Rok K) rfl (Orc.nil _ _ _) (by kernel_rfl) (fun _ _ => by kernel_rfl)
noncomputable def digest_key_s0_se (K : Nat) : SE := stmtN [(1, .sl), (6, .addr), (26, .bool)] [(1, .sl)] [(1, 2), (8, 9), (27, 32)] (fun x w => digest_key_s0 K x.1 x.2.1 x.2.2.1 w)
theorem digest_key_s0_se_ok (K : Nat) (R : Rg) (h : subRB [(1, 2), (8, 9), (27, 32)] R = true) : (digest_key_s0_se K).Ok prog R (cd (bodyOf f52) [1, 1, 1, 0, 1]) := stmtN_ok (Li := [(1, .sl), (6, .addr), (26, .bool)]) (Lo := [(1, .sl)]) (S := (fun x w => digest_key_s0 K x.1 x.2.1 x.2.2.1 w)) (digest_key_s0_ok K) (subR_of h)
theorem digest_key_l1_ok (K : Nat) (n : Nat) : StmtNOk prog [(4, .addr), (6, .addr), (9, .addr), (10, .addr), (11, .addr), (41, .int .i64)] [] [(12, 13), (41, 55)] ((fun n x w => digest_key_l1 K n x.1 x.2.1 x.2.2.1 x.2.2.2.1 x.2.2.2.2.1 x.2.2.2.2.2.1 w) n) (.block 0 (.loop (cd (bodyOf f52) [1, 1, 1, 1, 1, 1, 1, 1, 0, 1, 0, 0]))) :=
    mk_loopN (O := tabL []) (root := (bodyOf f52)) (π := [1, 1, 1, 1, 1, 1, 1, 1, 0, 1, 0, 0]) (id := 0) (Li := [(4, .addr), (6, .addr), (9, .addr), (10, .addr), (11, .addr), (41, .int .i64)]) (Lo := []) (S := (fun n x w => digest_key_l1 K n x.1 x.2.1 x.2.2.1 x.2.2.2.1 x.2.2.2.2.1 x.2.2.2.2.2.1 w)) (body := cd (bodyOf f52) [1, 1, 1, 1, 1, 1, 1, 1, 0, 1, 0, 0]) (digest_key_Eok K) (digest_key_Rok K) rfl (Orc.nil _ _ _) (by kernel_rfl) (fun _ _ => by kernel_rfl) (fun _ _ _ => by kernel_rfl) n
noncomputable def digest_key_l1_se (K : Nat) : SE := stmtN [(4, .addr), (6, .addr), (9, .addr), (10, .addr), (11, .addr), (41, .int .i64)] [] [(12, 13), (41, 55)] (fun x w => digest_key_l1 K K x.1 x.2.1 x.2.2.1 x.2.2.2.1 x.2.2.2.2.1 x.2.2.2.2.2.1 w)
theorem digest_key_l1_se_ok (K : Nat) (R : Rg) (h : subRB [(12, 13), (41, 55)] R = true) : (digest_key_l1_se K).Ok prog R (.block 0 (.loop (cd (bodyOf f52) [1, 1, 1, 1, 1, 1, 1, 1, 0, 1, 0, 0]))) := stmtN_ok (Li := [(4, .addr), (6, .addr), (9, .addr), (10, .addr), (11, .addr), (41, .int .i64)]) (Lo := []) (S := (fun x w => digest_key_l1 K K x.1 x.2.1 x.2.2.1 x.2.2.2.1 x.2.2.2.2.1 x.2.2.2.2.2.1 w)) (digest_key_l1_ok K K) (subR_of h)
theorem digest_key_facts : FunFacts prog 52 f52 (bodyOf f52) [(0, .int .i64), (1, .sl)] [(0, 68)] := ⟨func52, by kernel_rfl, by kernel_rfl, by kernel_rfl, by kernel_rfl, by kernel_rfl⟩
theorem digest_key_calls (K : Nat) (x : TT [(0, .int .i64), (1, .sl)]) (w : World) (y : TR [.agg, .bool]) (w2 : World) (h : digest_key K x.1 x.2.1 w = some (y, w2)) : Calls prog 52 (encA [(0, .int .i64), (1, .sl)] x).toArray w (fun e w3 => e = .returned (resV (encR [.agg, .bool] y)) ∧ w3 = w2) :=
    mk_fun (O := tabL [([1, 1, 1, 0, 1], digest_key_s0_se K), ([1, 1, 1, 1, 1, 1, 1, 1, 0, 1], digest_key_l1_se K)]) (Lp := [(0, .int .i64), (1, .sl)]) (Rt := [.agg, .bool]) (S := (fun x w => digest_key K x.1 x.2.1 w)) (digest_key_Eok K) (digest_key_Rok K) rfl digest_key_facts (Orc.cons (by kernel_rfl) (digest_key_s0_se_ok K [(0, 68)] (by kernel_rfl)) (Orc.cons (by kernel_rfl) (digest_key_l1_se_ok K [(0, 68)] (by kernel_rfl)) (Orc.nil _ _ _))) (fun _ _ => by kernel_rfl) x w y w2 h
noncomputable def digest_key_ce (K : Nat) : CE := funE [(0, .int .i64), (1, .sl)] [.agg, .bool] (fun x w => digest_key K x.1 x.2.1 w)
theorem digest_key_ok (K : Nat) : (digest_key_ce K).Ok prog 52 := funE_ok (Rt := [.agg, .bool]) (S := (fun x w => digest_key K x.1 x.2.1 w)) digest_key_facts fun x w y w2 h => digest_key_calls K x w y w2 h

noncomputable def digest_NewMac_E (K : Nat) : List (Nat × CE) := [(29, digest_Size_ce), (52, digest_key_ce K)]
theorem digest_NewMac_Eok (K : Nat) : Env.Ok prog (tab (digest_NewMac_E K)) := (Env.cons (digest_Size_ok) (Env.cons (digest_key_ok K) (Env.nil _)))
noncomputable def digest_NewMac_R (K : Nat) : List (Nat × RE) := []
theorem digest_NewMac_Rok (K : Nat) : REnv.Ok prog (tab (digest_NewMac_R K)) := (REnv.nil _)
/-- coffer/digest.NewMac -/
noncomputable def digest_NewMac (K : Nat) (hash0 : Int) (k1 : Sl) (w : World) : Option (((Option Addr) × Int × Unit) × World) :=
  bnd (digest_Size hash0 w) fun r_1 w_2 =>
  if (r_1.1 == 0) = true then (some ((none, 10, ()), w_2)) else (if (decide (((k1.len : Nat) : Int) > 33554432)) = true then (some ((none, 4, ()), w_2)) else (bnd (digest_key K hash0 k1 w_2) fun r_3 w_4 =>
  bnd (newB z93 93 w_4) fun m_5 w_6 =>
  if (r_3.1).size = 284 then ((stA m_5 r_3.1 w_6).bind fun w_7 =>
  (ldA 284 m_5 w_7).bind fun v_8 =>
  (ldA 284 m_5 w_7).bind fun v_9 =>
  (prog.built 97 [(0, (.agg v_8)), (1, (.agg v_9))]).bind fun cs_10 =>
  bnd (newB cs_10 97 w_7) fun p_11 w_12 =>
  some (((some p_11), 0, ()), w_12)) else none))
theorem digest_NewMac_facts : FunFacts prog 41 f41 (bodyOf f41) [(0, .int .i64), (1, .sl)] [(0, 24)] := ⟨func41, by kernel_rfl, by kernel_rfl, by kernel_rfl, by kernel_rfl, by kernel_rfl⟩
theorem digest_NewMac_calls (K : Nat) (x : TT [(0, .int .i64), (1, .sl)]) (w : World) (y : TR [.ptr, .int .i64]) (w2 : World) (h : digest_NewMac K x.1 x.2.1 w = some (y, w2)) : Calls prog 41 (encA [(0, .int .i64), (1, .sl)] x).toArray w (fun e w3 => e = .returned (resV (encR [.ptr, .int .i64] y)) ∧ w3 = w2) :=
    mk_fun (O := tabL []) (Lp := [(0, .int .i64), (1, .sl)]) (Rt := [.ptr, .int .i64]) (S := (fun x w => digest_NewMac K x.1 x.2.1 w)) (digest_NewMac_Eok K) (digest_NewMac_Rok K) rfl digest_NewMac_facts (Orc.nil _ _ _) (fun _ _ => by kernel_rfl) x w y w2 h
noncomputable def digest_NewMac_ce (K : Nat) : CE := funE [(0, .int .i64), (1, .sl)] [.ptr, .int .i64] (fun x w => digest_NewMac K x.1 x.2.1 w)
theorem digest_NewMac_ok (K : Nat) : (digest_NewMac_ce K).Ok prog 41 := funE_ok (Rt := [.ptr, .int .i64]) (S := (fun x w => digest_NewMac K x.1 x.2.1 w)) digest_NewMac_facts fun x w y w2 h => digest_NewMac_calls K x w y w2 h

noncomputable def digest_total_R (K : Nat) : List (Nat × RE) := []
theorem digest_total_Rok (K : Nat) : REnv.Ok prog (tab (digest_total_R K)) := (REnv.nil _)
noncomputable def digest_total_l0_b (K : Nat) (w : World) (rec : Int → Sl → Int → Int → Option (Out (Int × Unit) (Int × Unit))) (n3 : Int) (a6 : Sl) (a7 : Int) (a8 : Int) : Option (Out (Int × Unit) (Int × Unit)) :=
  if (decide (a8 < a7)) = true then ((a6.a).bind fun p_1 =>
  if (0 : Int) ≤ a8 ∧ a8 < ((a6.len : Nat) : Int) then ((ldS (p_1.add ((Int.toNat a8) * 1)) w).bind fun v_2 =>
  if (decide ((IntKind.i64.wrap (n3 + ((v_2.len : Nat) : Int))) > 33554432)) = true then (some (.norm ((IntKind.i64.wrap (n3 + ((v_2.len : Nat) : Int))), ()))) else (rec (IntKind.i64.wrap (n3 + ((v_2.len : Nat) : Int))) a6 a7 (IntKind.i64.wrap (a8 + 1)))) else none) else (some (.norm (n3, ())))
noncomputable def digest_total_l0 (K : Nat) (n : Nat) (n3 : Int) (a6 : Sl) (a7 : Int) (a8 : Int) (w : World) : Option (Out (Int × Unit) (Int × Unit)) := iter (α := Int → Sl → Int → Int → Option (Out (Int × Unit) (Int × Unit))) (fun _ _ _ _ => none) (digest_total_l0_b K w) n n3 a6 a7 a8
/-- coffer/digest.total -/
noncomputable def digest_total (K : Nat) (parts0 : Sl) (w : World) : Option (Int × Unit) :=
  (digest_total_l0 K K 0 parts0 ((parts0.len : Nat) : Int) 0 w).bind fun y_3 =>
  (match y_3 with
  | .norm z_4n => (some (z_4n.1, ()))
  | .ret z_4r => (some (z_4r.1, ())))
theorem digest_total_l0_ok (K : Nat) (n : Nat) : StmtQOk prog [(3, .int .i64), (6, .sl), (7, .int .i64), (8, .int .i64)] [(3, .int .i64)] [(2, .int .i64)] [(3, 4), (5, 6), (8, 19)] ((fun n x w => digest_total_l0 K n x.1 x.2.1 x.2.2.1 x.2.2.2.1 w) n) (.block 0 (.loop (cd (bodyOf f53) [1, 1, 0, 1, 0, 0]))) :=
    mk_loopQ (O := tabL []) (root := (bodyOf f53)) (π := [1, 1, 0, 1, 0, 0]) (id := 0) (Li := [(3, .int .i64), (6, .sl), (7, .int .i64), (8, .int .i64)]) (Lo := [(3, .int .i64)]) (Lr := [(2, .int .i64)]) (S := (fun n x w => digest_total_l0 K n x.1 x.2.1 x.2.2.1 x.2.2.2.1 w)) (body := cd (bodyOf f53) [1, 1, 0, 1, 0, 0]) (digest_total_Rok K) (OrcQ.nil _ _ _) (by kernel_rfl) (fun _ _ => by kernel_rfl) (fun _ _ _ => by kernel_rfl) n
noncomputable def digest_total_l0_se (K : Nat) : SQ := stmtQ [(3, .int .i64), (6, .sl), (7, .int .i64), (8, .int .i64)] [(3, .int .i64)] [(2, .int .i64)] [(3, 4), (5, 6), (8, 19)] (fun x w => digest_total_l0 K K x.1 x.2.1 x.2.2.1 x.2.2.2.1 w)
theorem digest_total_l0_se_ok (K : Nat) (R : Rg) (h : subRB [(3, 4), (5, 6), (8, 19)] R = true) : (digest_total_l0_se K).Ok prog R (.block 0 (.loop (cd (bodyOf f53) [1, 1, 0, 1, 0, 0]))) := stmtQ_ok (Li := [(3, .int .i64), (6, .sl), (7, .int .i64), (8, .int .i64)]) (Lo := [(3, .int .i64)]) (Lr := [(2, .int .i64)]) (S := (fun x w => digest_total_l0 K K x.1 x.2.1 x.2.2.1 x.2.2.2.1 w)) (digest_total_l0_ok K K) (subR_of h)
theorem digest_total_facts : FunFacts prog 53 f53 (bodyOf f53) [(0, .sl)] [(0, 20)] := ⟨func53, by kernel_rfl, by kernel_rfl, by kernel_rfl, by kernel_rfl, by kernel_rfl⟩
theorem digest_total_calls (K : Nat) (x : TT [(0, .sl)]) (w : World) (y : TR [.int .i64]) (h : digest_total K x.1 w = some y) : Calls prog 53 (encA [(0, .sl)] x).toArray w (fun e w3 => e = .returned (resV (encR [.int .i64] y)) ∧ w3 = w) :=
    mk_funQ (O := tabL [([1, 1, 0, 1], digest_total_l0_se K)]) (Lp := [(0, .sl)]) (Rt := [.int .i64]) (S := (fun x w => digest_total K x.1 w)) (digest_total_Rok K) digest_total_facts (OrcQ.cons (by kernel_rfl) (digest_total_l0_se_ok K [(0, 20)] (by kernel_rfl)) (OrcQ.nil _ _ _)) (fun _ _ => by kernel_rfl) x w y h
noncomputable def digest_total_re (K : Nat) : RE := funR [(0, .sl)] [.int .i64] (fun x w => digest_total K x.1 w)
theorem digest_total_ok (K : Nat) : (digest_total_re K).Ok prog 53 := funR_ok (Rt := [.int .i64]) (S := (fun x w => digest_total K x.1 w)) digest_total_facts fun x w y h => digest_total_calls K x w y h

noncomputable def digest_Mac_Write_E (K : Nat) : List (Nat × CE) := [(54, digest_state_take_ce K)]
theorem digest_Mac_Write_Eok (K : Nat) : Env.Ok prog (tab (digest_Mac_Write_E K)) := (Env.cons (digest_state_take_ok K) (Env.nil _))
noncomputable def digest_Mac_Write_R (K : Nat) : List (Nat × RE) := [(53, digest_total_re K)]
theorem digest_Mac_Write_Rok (K : Nat) : REnv.Ok prog (tab (digest_Mac_Write_R K)) := (REnv.cons (digest_total_ok K) (REnv.nil _))
noncomputable def digest_Mac_Write_l0_b (K : Nat) (rec : Option Addr → Sl → Int → Int → World → Option ((Unit) × World)) (m0 : Option Addr) (a29 : Sl) (a30 : Int) (a31 : Int) (w : World) : Option ((Unit) × World) :=
  if (decide (a31 < a30)) = true then ((a29.a).bind fun p_6 =>
  if (0 : Int) ≤ a31 ∧ a31 < ((a29.len : Nat) : Int) then ((ldS (p_6.add ((Int.toNat a31) * 1)) w).bind fun v_7 =>
  (m0).bind fun p_8 =>
  bnd (digest_state_take K (some ((p_8.add 0).add 0)) v_7 w) fun r_9 w_10 =>
  rec m0 a29 a30 (IntKind.i64.wrap (a31 + 1)) w_10) else none) else (some ((), w))
noncomputable def digest_Mac_Write_l0 (K : Nat) (n : Nat) : Option Addr → Sl → Int → Int → World → Option ((Unit) × World) := iter (fun _ _ _ _ _ => none) (digest_Mac_Write_l0_b K) n
/-- (*coffer/digest.Mac).Write -/
noncomputable def digest_Mac_Write (K : Nat) (m0 : Option Addr) (parts1 : Sl) (w : World) : Option ((Int × Unit) × World) :=
  if m0.isNone = true then (some ((1, ()), w)) else ((m0).bind fun p_1 =>
  (m0).bind fun p_2 =>
  (ldI .u64 (((p_1.add 0).add 0).add 5) w.drew).bind fun v_3 =>
  (ldI .i64 ((((p_2.add 0).add 0).add 0).add 1) w.drew).bind fun v_4 =>
  (digest_total K parts1 w.drew).bind fun r_5 =>
  if (decide ((IntKind.u64.wrap ((IntKind.u64.wrap (v_3 - (IntKind.u64.wrap v_4))) + (IntKind.u64.wrap r_5.1))) > 33554432)) = true then (some ((4, ()), w.drew)) else (bnd (digest_Mac_Write_l0 K K m0 parts1 ((parts1.len : Nat) : Int) 0 w.drew) fun y_11 w_12 =>
  some ((0, ()), w_12)))
theorem digest_Mac_Write_l0_ok (K : Nat) (n : Nat) : StmtNOk prog [(0, .ptr), (29, .sl), (30, .int .i64), (31, .int .i64)] [] [(6, 7), (31, 42)] ((fun n x w => digest_Mac_Write_l0 K n x.1 x.2.1 x.2.2.1 x.2.2.2.1 w) n) (.block 0 (.loop (cd (bodyOf f42) [1, 1, 1, 0, 1, 0, 0]))) :=
    mk_loopN (O := tabL []) (root := (bodyOf f42)) (π := [1, 1, 1, 0, 1, 0, 0]) (id := 0) (Li := [(0, .ptr), (29, .sl), (30, .int .i64), (31, .int .i64)]) (Lo := []) (S := (fun n x w => digest_Mac_Write_l0 K n x.1 x.2.1 x.2.2.1 x.2.2.2.1 w)) (body := cd (bodyOf f42) [1, 1, 1, 0, 1, 0, 0]) (digest_Mac_Write_Eok K) (digest_Mac_Write_Rok K) rfl (Orc.nil _ _ _) (by kernel_rfl) (fun _ _ => by kernel_rfl) (fun _ _ _ => by kernel_rfl) n
noncomputable def digest_Mac_Write_l0_se (K : Nat) : SE := stmtN [(0, .ptr), (29, .sl), (30, .int .i64), (31, .int .i64)] [] [(6, 7), (31, 42)] (fun x w => digest_Mac_Write_l0 K K x.1 x.2.1 x.2.2.1 x.2.2.2.1 w)
theorem digest_Mac_Write_l0_se_ok (K : Nat) (R : Rg) (h : subRB [(6, 7), (31, 42)] R = true) : (digest_Mac_Write_l0_se K).Ok prog R (.block 0 (.loop (cd (bodyOf f42) [1, 1, 1, 0, 1, 0, 0]))) := stmtN_ok (Li := [(0, .ptr), (29, .sl), (30, .int .i64), (31, .int .i64)]) (Lo := []) (S := (fun x w => digest_Mac_Write_l0 K K x.1 x.2.1 x.2.2.1 x.2.2.2.1 w)) (digest_Mac_Write_l0_ok K K) (subR_of h)
theorem digest_Mac_Write_facts : FunFacts prog 42 f42 (bodyOf f42) [(0, .ptr), (1, .sl)] [(0, 42)] := ⟨func42, by kernel_rfl, by kernel_rfl, by kernel_rfl, by kernel_rfl, by kernel_rfl⟩
theorem digest_Mac_Write_calls (K : Nat) (x : TT [(0, .ptr), (1, .sl)]) (w : World) (y : TR [.int .i64]) (w2 : World) (h : digest_Mac_Write K x.1 x.2.1 w = some (y, w2)) : Calls prog 42 (encA [(0, .ptr), (1, .sl)] x).toArray w (fun e w3 => e = .returned (resV (encR [.int .i64] y)) ∧ w3 = w2) :=
    mk_fun (O := tabL [([1, 1, 1, 0, 1], digest_Mac_Write_l0_se K)]) (Lp := [(0, .ptr), (1, .sl)]) (Rt := [.int .i64]) (S := (fun x w => digest_Mac_Write K x.1 x.2.1 w)) (digest_Mac_Write_Eok K) (digest_Mac_Write_Rok K) rfl digest_Mac_Write_facts (Orc.cons (by kernel_rfl) (digest_Mac_Write_l0_se_ok K [(0, 42)] (by kernel_rfl)) (Orc.nil _ _ _)) (fun _ _ => by kernel_rfl) x w y w2 h
noncomputable def digest_Mac_Write_ce (K : Nat) : CE := funE [(0, .ptr), (1, .sl)] [.int .i64] (fun x w => digest_Mac_Write K x.1 x.2.1 w)
theorem digest_Mac_Write_ok (K : Nat) : (digest_Mac_Write_ce K).Ok prog 42 := funE_ok (Rt := [.int .i64]) (S := (fun x w => digest_Mac_Write K x.1 x.2.1 w)) digest_Mac_Write_facts fun x w y w2 h => digest_Mac_Write_calls K x w y w2 h

noncomputable def digest_keyed_end_E (K : Nat) : List (Nat × CE) := [(60, digest_state_end_ce K), (54, digest_state_take_ce K)]
theorem digest_keyed_end_Eok (K : Nat) : Env.Ok prog (tab (digest_keyed_end_E K)) := (Env.cons (digest_state_end_ok K) (Env.cons (digest_state_take_ok K) (Env.nil _)))
noncomputable def digest_keyed_end_R (K : Nat) : List (Nat × RE) := []
theorem digest_keyed_end_Rok (K : Nat) : REnv.Ok prog (tab (digest_keyed_end_R K)) := (REnv.nil _)
/-- (coffer/digest.keyed).end -/
noncomputable def digest_keyed_end (K : Nat) (m0 : Array Value) (w : World) : Option ((Sl × Unit) × World) :=
  bnd (newB m0 93 w) fun p_1 w_2 =>
  (ldA 142 (p_1.add 0) w_2).bind fun v_3 =>
  bnd (digest_state_end K v_3 w_2) fun r_4 w_5 =>
  bnd (digest_state_take K (some (p_1.add 142)) r_4.1 w_5) fun r_6 w_7 =>
  (ldA 142 (p_1.add 142) w_7).bind fun v_8 =>
  bnd (digest_state_end K v_8 w_7) fun r_9 w_10 =>
  some ((r_9.1, ()), w_10)
theorem digest_keyed_end_facts : FunFacts prog 55 f55 (bodyOf f55) [(0, .agg)] [(0, 11)] := ⟨func55, by kernel_rfl, by kernel_rfl, by kernel_rfl, by kernel_rfl, by kernel_rfl⟩
theorem digest_keyed_end_calls (K : Nat) (x : TT [(0, .agg)]) (w : World) (y : TR [.sl]) (w2 : World) (h : digest_keyed_end K x.1 w = some (y, w2)) : Calls prog 55 (encA [(0, .agg)] x).toArray w (fun e w3 => e = .returned (resV (encR [.sl] y)) ∧ w3 = w2) :=
    mk_fun (O := tabL []) (Lp := [(0, .agg)]) (Rt := [.sl]) (S := (fun x w => digest_keyed_end K x.1 w)) (digest_keyed_end_Eok K) (digest_keyed_end_Rok K) rfl digest_keyed_end_facts (Orc.nil _ _ _) (fun _ _ => by kernel_rfl) x w y w2 h
noncomputable def digest_keyed_end_ce (K : Nat) : CE := funE [(0, .agg)] [.sl] (fun x w => digest_keyed_end K x.1 w)
theorem digest_keyed_end_ok (K : Nat) : (digest_keyed_end_ce K).Ok prog 55 := funE_ok (Rt := [.sl]) (S := (fun x w => digest_keyed_end K x.1 w)) digest_keyed_end_facts fun x w y w2 h => digest_keyed_end_calls K x w y w2 h

noncomputable def digest_Mac_Sum_E (K : Nat) : List (Nat × CE) := [(55, digest_keyed_end_ce K)]
theorem digest_Mac_Sum_Eok (K : Nat) : Env.Ok prog (tab (digest_Mac_Sum_E K)) := (Env.cons (digest_keyed_end_ok K) (Env.nil _))
noncomputable def digest_Mac_Sum_R (K : Nat) : List (Nat × RE) := []
theorem digest_Mac_Sum_Rok (K : Nat) : REnv.Ok prog (tab (digest_Mac_Sum_R K)) := (REnv.nil _)
/-- (*coffer/digest.Mac).Sum -/
noncomputable def digest_Mac_Sum (K : Nat) (m0 : Option Addr) (w : World) : Option ((Sl × Unit) × World) :=
  if m0.isNone = true then (some ((⟨none, 0, 0⟩, ()), w)) else ((m0).bind fun p_1 =>
  (ldA 284 (p_1.add 0) w).bind fun v_2 =>
  bnd (digest_keyed_end K v_2 w) fun r_3 w_4 =>
  some ((r_3.1, ()), w_4))
theorem digest_Mac_Sum_facts : FunFacts prog 43 f43 (bodyOf f43) [(0, .ptr)] [(0, 10)] := ⟨func43, by kernel_rfl, by kernel_rfl, by kernel_rfl, by kernel_rfl, by kernel_rfl⟩
theorem digest_Mac_Sum_calls (K : Nat) (x : TT [(0, .ptr)]) (w : World) (y : TR [.sl]) (w2 : World) (h : digest_Mac_Sum K x.1 w = some (y, w2)) : Calls prog 43 (encA [(0, .ptr)] x).toArray w (fun e w3 => e = .returned (resV (encR [.sl] y)) ∧ w3 = w2) :=
    mk_fun (O := tabL []) (Lp := [(0, .ptr)]) (Rt := [.sl]) (S := (fun x w => digest_Mac_Sum K x.1 w)) (digest_Mac_Sum_Eok K) (digest_Mac_Sum_Rok K) rfl digest_Mac_Sum_facts (Orc.nil _ _ _) (fun _ _ => by kernel_rfl) x w y w2 h
noncomputable def digest_Mac_Sum_ce (K : Nat) : CE := funE [(0, .ptr)] [.sl] (fun x w => digest_Mac_Sum K x.1 w)
theorem digest_Mac_Sum_ok (K : Nat) : (digest_Mac_Sum_ce K).Ok prog 43 := funE_ok (Rt := [.sl]) (S := (fun x w => digest_Mac_Sum K x.1 w)) digest_Mac_Sum_facts fun x w y w2 h => digest_Mac_Sum_calls K x w y w2 h

noncomputable def digest_Code_E (K : Nat) : List (Nat × CE) := [(41, digest_NewMac_ce K), (42, digest_Mac_Write_ce K), (43, digest_Mac_Sum_ce K)]
theorem digest_Code_Eok (K : Nat) : Env.Ok prog (tab (digest_Code_E K)) := (Env.cons (digest_NewMac_ok K) (Env.cons (digest_Mac_Write_ok K) (Env.cons (digest_Mac_Sum_ok K) (Env.nil _))))
noncomputable def digest_Code_R (K : Nat) : List (Nat × RE) := []
theorem digest_Code_Rok (K : Nat) : REnv.Ok prog (tab (digest_Code_R K)) := (REnv.nil _)
noncomputable def digest_Code_s0 (K : Nat) (parts2 : Sl) (m8 : Option Addr) (e9 : Int) (a17 : Bool) (w : World) : Option ((Int × Unit) × World) :=
  if a17 = true then (bnd (digest_Mac_Write K m8 parts2 w) fun r_3 w_4 =>
  some ((r_3.1, ()), w_4)) else (some ((e9, ()), w))
/-- coffer/digest.Code -/
noncomputable def digest_Code (K : Nat) (hash0 : Int) (k1 : Sl) (parts2 : Sl) (w : World) : Option ((Sl × Int × Unit) × World) :=
  bnd (digest_NewMac K hash0 k1 w) fun r_1 w_2 =>
  bnd (digest_Code_s0 K parts2 r_1.1 r_1.2.1 (r_1.2.1 == 0) w_2) fun y_5 w_6 =>
  if (y_5.1 != 0) = true then (some ((⟨none, 0, 0⟩, y_5.1, ()), w_6)) else (bnd (digest_Mac_Sum K r_1.1 w_6) fun r_7 w_8 =>
  some ((r_7.1, 0, ()), w_8))
theorem digest_Code_s0_ok (K : Nat) : StmtNOk prog [(2, .sl), (8, .ptr), (9, .int .i64), (17, .bool)] [(9, .int .i64)] [(9, 10), (18, 21)] (fun x w => digest_Code_s0 K x.1 x.2.1 x.2.2.1 x.2.2.2.1 w) (cd (bodyOf f35) [1, 1, 0, 1]) :=
    mk_stmtN (O := tabL []) (root := (bodyOf f35)) (π := [1, 1, 0, 1]) (Li := [(2, .sl), (8, .ptr), (9, .int .i64), (17, .bool)]) (Lo := [(9, .int .i64)]) (S := (fun x w => digest_Code_s0 K x.1 x.2.1 x.2.2.1 x.2.2.2.1 w)) (digest_Code_Eok K) (digest_Code_Rok K) rfl (Orc.nil _ _ _) (by kernel_rfl) (fun _ _ => by kernel_rfl)
noncomputable def digest_Code_s0_se (K : Nat) : SE := stmtN [(2, .sl), (8, .ptr), (9, .int .i64), (17, .bool)] [(9, .int .i64)] [(9, 10), (18, 21)] (fun x w => digest_Code_s0 K x.1 x.2.1 x.2.2.1 x.2.2.2.1 w)
theorem digest_Code_s0_se_ok (K : Nat) (R : Rg) (h : subRB [(9, 10), (18, 21)] R = true) : (digest_Code_s0_se K).Ok prog R (cd (bodyOf f35) [1, 1, 0, 1]) := stmtN_ok (Li := [(2, .sl), (8, .ptr), (9, .int .i64), (17, .bool)]) (Lo := [(9, .int .i64)]) (S := (fun x w => digest_Code_s0 K x.1 x.2.1 x.2.2.1 x.2.2.2.1 w)) (digest_Code_s0_ok K) (subR_of h)
theorem digest_Code_facts : FunFacts prog 35 f35 (bodyOf f35) [(0, .int .i64), (1, .sl), (2, .sl)] [(0, 26)] := ⟨func35, by kernel_rfl, by kernel_rfl, by kernel_rfl, by kernel_rfl, by kernel_rfl⟩
theorem digest_Code_calls (K : Nat) (x : TT [(0, .int .i64), (1, .sl), (2, .sl)]) (w : World) (y : TR [.sl, .int .i64]) (w2 : World) (h : digest_Code K x.1 x.2.1 x.2.2.1 w = some (y, w2)) : Calls prog 35 (encA [(0, .int .i64), (1, .sl), (2, .sl)] x).toArray w (fun e w3 => e = .returned (resV (encR [.sl, .int .i64] y)) ∧ w3 = w2) :=
    mk_fun (O := tabL [([1, 1, 0, 1], digest_Code_s0_se K)]) (Lp := [(0, .int .i64), (1, .sl), (2, .sl)]) (Rt := [.sl, .int .i64]) (S := (fun x w => digest_Code K x.1 x.2.1 x.2.2.1 w)) (digest_Code_Eok K) (digest_Code_Rok K) rfl digest_Code_facts (Orc.cons (by kernel_rfl) (digest_Code_s0_se_ok K [(0, 26)] (by kernel_rfl)) (Orc.nil _ _ _)) (fun _ _ => by kernel_rfl) x w y w2 h
noncomputable def digest_Code_ce (K : Nat) : CE := funE [(0, .int .i64), (1, .sl), (2, .sl)] [.sl, .int .i64] (fun x w => digest_Code K x.1 x.2.1 x.2.2.1 w)
theorem digest_Code_ok (K : Nat) : (digest_Code_ce K).Ok prog 35 := funE_ok (Rt := [.sl, .int .i64]) (S := (fun x w => digest_Code K x.1 x.2.1 x.2.2.1 w)) digest_Code_facts fun x w y w2 h => digest_Code_calls K x w y w2 h

noncomputable def spring_Spring_code_E (K : Nat) : List (Nat × CE) := [(35, digest_Code_ce K)]
theorem spring_Spring_code_Eok (K : Nat) : Env.Ok prog (tab (spring_Spring_code_E K)) := (Env.cons (digest_Code_ok K) (Env.nil _))
noncomputable def spring_Spring_code_R (K : Nat) : List (Nat × RE) := []
theorem spring_Spring_code_Rok (K : Nat) : REnv.Ok prog (tab (spring_Spring_code_R K)) := (REnv.nil _)
/-- (*coffer/spring.Spring).code -/
noncomputable def spring_Spring_code (K : Nat) (s0 : Option Addr) (parts1 : Sl) (w : World) : Option ((Sl × Unit) × World) :=
  (s0).bind fun p_1 =>
  (s0).bind fun p_2 =>
  (ldI .i64 (p_1.add 0) w.drew).bind fun v_3 =>
  (ldS (p_2.add 3) w.drew).bind fun v_4 =>
  bnd (digest_Code K v_3 v_4 parts1 w.drew) fun r_5 w_6 =>
  some ((r_5.1, ()), w_6)
theorem spring_Spring_code_facts : FunFacts prog 25 f25 (bodyOf f25) [(0, .ptr), (1, .sl)] [(0, 21)] := ⟨func25, by kernel_rfl, by kernel_rfl, by kernel_rfl, by kernel_rfl, by kernel_rfl⟩
theorem spring_Spring_code_calls (K : Nat) (x : TT [(0, .ptr), (1, .sl)]) (w : World) (y : TR [.sl]) (w2 : World) (h : spring_Spring_code K x.1 x.2.1 w = some (y, w2)) : Calls prog 25 (encA [(0, .ptr), (1, .sl)] x).toArray w (fun e w3 => e = .returned (resV (encR [.sl] y)) ∧ w3 = w2) :=
    mk_fun (O := tabL []) (Lp := [(0, .ptr), (1, .sl)]) (Rt := [.sl]) (S := (fun x w => spring_Spring_code K x.1 x.2.1 w)) (spring_Spring_code_Eok K) (spring_Spring_code_Rok K) rfl spring_Spring_code_facts (Orc.nil _ _ _) (fun _ _ => by kernel_rfl) x w y w2 h
noncomputable def spring_Spring_code_ce (K : Nat) : CE := funE [(0, .ptr), (1, .sl)] [.sl] (fun x w => spring_Spring_code K x.1 x.2.1 w)
theorem spring_Spring_code_ok (K : Nat) : (spring_Spring_code_ce K).Ok prog 25 := funE_ok (Rt := [.sl]) (S := (fun x w => spring_Spring_code K x.1 x.2.1 w)) spring_Spring_code_facts fun x w y w2 h => spring_Spring_code_calls K x w y w2 h

noncomputable def spring_Spring_update_E (K : Nat) : List (Nat × CE) := [(22, slices_ContainsFunc_byte_byte_ce K), (25, spring_Spring_code_ce K)]
theorem spring_Spring_update_Eok (K : Nat) : Env.Ok prog (tab (spring_Spring_update_E K)) := (Env.cons (slices_ContainsFunc_byte_byte_ok K) (Env.cons (spring_Spring_code_ok K) (Env.nil _)))
noncomputable def spring_Spring_update_R (K : Nat) : List (Nat × RE) := []
theorem spring_Spring_update_Rok (K : Nat) : REnv.Ok prog (tab (spring_Spring_update_R K)) := (REnv.nil _)
noncomputable def spring_Spring_update_s1 (K : Nat) (some4 : Bool) (mark5 : Int) (w : World) : Option ((Bool × Unit) × World) :=
  if (mark5 == 1) = true then (some (((!some4), ()), w)) else (some ((false, ()), w))
noncomputable def spring_Spring_update_l0_b (K : Nat) (rec : Option Addr → Sl → Bool → Int → World → Option ((Out (Unit) (Unit)) × World)) (s0 : Option Addr) (parts1 : Sl) (some4 : Bool) (a8 : Int) (w : World) : Option ((Out (Unit) (Unit)) × World) :=
  if (decide (a8 < 2)) = true then (bnd (spring_Spring_update_s1 K some4 a8 w) fun y_3 w_4 =>
  if y_3.1 = true then (some (.ret (), w_4)) else ((s0).bind fun p_5 =>
  (ldS (p_5.add 4) w_4).bind fun v_6 =>
  bnd (bldS prog 22 1 #[(0, (.int .u8 a8))] w_4) fun s_7 w_8 =>
  bnd (bldS prog 49 2 #[(0, (.slice v_6.a v_6.len v_6.cap)), (1, (.slice s_7.a s_7.len s_7.cap))] w_8) fun s_9 w_10 =>
  bnd (apd prog 49 49 (.slice s_9.a s_9.len s_9.cap) (.slice parts1.a parts1.len parts1.cap) w_10) fun s_11 w_12 =>
  bnd (spring_Spring_code K s0 s_11 w_12) fun r_13 w_14 =>
  (s0).bind fun p_15 =>
  (stC (p_15.add 3) (.slice r_13.1.a r_13.1.len r_13.1.cap) w_14).bind fun w_16 =>
  (s0).bind fun p_17 =>
  (ldS (p_17.add 4) w_16).bind fun v_18 =>
  bnd (bldS prog 49 1 #[(0, (.slice v_18.a v_18.len v_18.cap))] w_16) fun s_19 w_20 =>
  bnd (spring_Spring_code K s0 s_19 w_20) fun r_21 w_22 =>
  (s0).bind fun p_23 =>
  (stC (p_23.add 4) (.slice r_21.1.a r_21.1.len r_21.1.cap) w_22).bind fun w_24 =>
  rec s0 parts1 some4 (IntKind.u8.wrap (a8 + 1)) w_24)) else (some (.norm (), w))
noncomputable def spring_Spring_update_l0 (K : Nat) (n : Nat) : Option Addr → Sl → Bool → Int → World → Option ((Out (Unit) (Unit)) × World) := iter (fun _ _ _ _ _ => none) (spring_Spring_update_l0_b K) n
/-- (*coffer/spring.Spring).update -/
noncomputable def spring_Spring_update (K : Nat) (s0 : Option Addr) (parts1 : Sl) (w : World) : Option ((Unit) × World) :=
  bnd (slices_ContainsFunc_byte_byte K parts1 (.func (.func 34) #[] #[]) w) fun r_1 w_2 =>
  bnd (spring_Spring_update_l0 K K s0 parts1 r_1.1 0 w_2) fun y_25 w_26 =>
  (match y_25 with
  | .norm z_27n => (some ((), w_26))
  | .ret z_27r => (some ((), w_26)))
theorem spring_Spring_update_s1_ok (K : Nat) : StmtNOk prog [(4, .bool), (5, .int .u8)] [(16, .bool)] [(11, 17)] (fun x w => spring_Spring_update_s1 K x.1 x.2.1 w) (cd (bodyOf f24) [1, 1, 0, 0, 1, 1, 0, 0, 1, 0, 0]) :=
    mk_stmtN (O := tabL []) (root := (bodyOf f24)) (π := [1, 1, 0, 0, 1, 1, 0, 0, 1, 0, 0]) (Li := [(4, .bool), (5, .int .u8)]) (Lo := [(16, .bool)]) (S := (fun x w => spring_Spring_update_s1 K x.1 x.2.1 w)) (spring_Spring_update_Eok K) (spring_Spring_update_Rok K) rfl (Orc.nil _ _ _) (by kernel_rfl) (fun _ _ => by kernel_rfl)
noncomputable def spring_Spring_update_s1_se (K : Nat) : SE := stmtN [(4, .bool), (5, .int .u8)] [(16, .bool)] [(11, 17)] (fun x w => spring_Spring_update_s1 K x.1 x.2.1 w)
theorem spring_Spring_update_s1_se_ok (K : Nat) (R : Rg) (h : subRB [(11, 17)] R = true) : (spring_Spring_update_s1_se K).Ok prog R (cd (bodyOf f24) [1, 1, 0, 0, 1, 1, 0, 0, 1, 0, 0]) := stmtN_ok (Li := [(4, .bool), (5, .int .u8)]) (Lo := [(16, .bool)]) (S := (fun x w => spring_Spring_update_s1 K x.1 x.2.1 w)) (spring_Spring_update_s1_ok K) (subR_of h)
theorem spring_Spring_update_l0_ok (K : Nat) (n : Nat) : StmtOk prog [(0, .ptr), (1, .sl), (4, .bool), (8, .int .u8)] [] [] [(5, 6), (8, 42)] ((fun n x w => spring_Spring_update_l0 K n x.1 x.2.1 x.2.2.1 x.2.2.2.1 w) n) (.block 0 (.loop (cd (bodyOf f24) [1, 1, 0, 0]))) :=
    mk_loop (O := tabL [([1, 1, 0, 0, 1, 1, 0, 0, 1, 0, 0], spring_Spring_update_s1_se K)]) (root := (bodyOf f24)) (π := [1, 1, 0, 0]) (id := 0) (Li := [(0, .ptr), (1, .sl), (4, .bool), (8, .int .u8)]) (Lo := []) (Lr := []) (S := (fun n x w => spring_Spring_update_l0 K n x.1 x.2.1 x.2.2.1 x.2.2.2.1 w)) (body := cd (bodyOf f24) [1, 1, 0, 0]) (spring_Spring_update_Eok K) (spring_Spring_update_Rok K) rfl (Orc.cons (by kernel_rfl) (spring_Spring_update_s1_se_ok K [(5, 6), (8, 42)] (by kernel_rfl)) (Orc.nil _ _ _)) (by kernel_rfl) (fun _ _ => by kernel_rfl) (fun _ _ _ => by kernel_rfl) n
noncomputable def spring_Spring_update_l0_se (K : Nat) : SE := stmt [(0, .ptr), (1, .sl), (4, .bool), (8, .int .u8)] [] [] [(5, 6), (8, 42)] (fun x w => spring_Spring_update_l0 K K x.1 x.2.1 x.2.2.1 x.2.2.2.1 w)
theorem spring_Spring_update_l0_se_ok (K : Nat) (R : Rg) (h : subRB [(5, 6), (8, 42)] R = true) : (spring_Spring_update_l0_se K).Ok prog R (.block 0 (.loop (cd (bodyOf f24) [1, 1, 0, 0]))) := stmt_ok (Li := [(0, .ptr), (1, .sl), (4, .bool), (8, .int .u8)]) (Lo := []) (Lr := []) (S := (fun x w => spring_Spring_update_l0 K K x.1 x.2.1 x.2.2.1 x.2.2.2.1 w)) (spring_Spring_update_l0_ok K K) (subR_of h)
theorem spring_Spring_update_facts : FunFacts prog 24 f24 (bodyOf f24) [(0, .ptr), (1, .sl)] [(0, 42)] := ⟨func24, by kernel_rfl, by kernel_rfl, by kernel_rfl, by kernel_rfl, by kernel_rfl⟩
theorem spring_Spring_update_calls (K : Nat) (x : TT [(0, .ptr), (1, .sl)]) (w : World) (y : TR []) (w2 : World) (h : spring_Spring_update K x.1 x.2.1 w = some (y, w2)) : Calls prog 24 (encA [(0, .ptr), (1, .sl)] x).toArray w (fun e w3 => e = .returned (resV (encR [] y)) ∧ w3 = w2) :=
    mk_fun (O := tabL [([1, 1], spring_Spring_update_l0_se K), ([1, 1, 0, 0, 1, 1, 0, 0, 1, 0, 0], spring_Spring_update_s1_se K)]) (Lp := [(0, .ptr), (1, .sl)]) (Rt := []) (S := (fun x w => spring_Spring_update K x.1 x.2.1 w)) (spring_Spring_update_Eok K) (spring_Spring_update_Rok K) rfl spring_Spring_update_facts (Orc.cons (by kernel_rfl) (spring_Spring_update_l0_se_ok K [(0, 42)] (by kernel_rfl)) (Orc.cons (by kernel_rfl) (spring_Spring_update_s1_se_ok K [(0, 42)] (by kernel_rfl)) (Orc.nil _ _ _))) (fun _ _ => by kernel_rfl) x w y w2 h
noncomputable def spring_Spring_update_ce (K : Nat) : CE := funE [(0, .ptr), (1, .sl)] [] (fun x w => spring_Spring_update K x.1 x.2.1 w)
theorem spring_Spring_update_ok (K : Nat) : (spring_Spring_update_ce K).Ok prog 24 := funE_ok (Rt := []) (S := (fun x w => spring_Spring_update K x.1 x.2.1 w)) spring_Spring_update_facts fun x w y w2 h => spring_Spring_update_calls K x w y w2 h

noncomputable def spring_New_E (K : Nat) : List (Nat × CE) := [(29, digest_Size_ce), (31, bytes_Repeat_ce K), (24, spring_Spring_update_ce K)]
theorem spring_New_Eok (K : Nat) : Env.Ok prog (tab (spring_New_E K)) := (Env.cons (digest_Size_ok) (Env.cons (bytes_Repeat_ok K) (Env.cons (spring_Spring_update_ok K) (Env.nil _))))
noncomputable def spring_New_R (K : Nat) : List (Nat × RE) := [(30, spring_fit_re)]
theorem spring_New_Rok (K : Nat) : REnv.Ok prog (tab (spring_New_R K)) := (REnv.cons (spring_fit_ok) (REnv.nil _))
noncomputable def spring_New_s1 (K : Nat) (limit1 : Int) (w : World) : Option ((Bool × Unit) × World) :=
  if (decide (limit1 < 1)) = true then (some ((true, ()), w)) else (some (((decide (limit1 > 16777216)), ()), w))
noncomputable def spring_New_s0 (K : Nat) (limit1 : Int) (entropy2 : Sl) (nonce3 : Sl) (personal4 : Sl) (size12 : Int) (w : World) : Option ((Out (Unit) ((Option Addr) × Int × Unit)) × World) :=
  if (size12 == 0) = true then (some (.ret (none, 10, ()), w)) else (bnd (spring_New_s1 K limit1 w) fun y_3 w_4 =>
  if y_3.1 = true then (some (.ret (none, 2, ()), w_4)) else ((spring_fit entropy2).bind fun r_5 =>
  if (!r_5.1) = true then (some (.ret (none, 60, ()), w_4)) else (if (decide (((nonce3.len : Nat) : Int) > 65536)) = true then (some (.ret (none, 4, ()), w_4)) else (if (decide (((personal4.len : Nat) : Int) > 65536)) = true then (some (.ret (none, 4, ()), w_4)) else (some (.norm (), w_4))))))
noncomputable def spring_New_s2 {β : Type} (K : Nat) (hash0 : Int) (limit1 : Int) (size12 : Int) (w : World) (k : (Addr × Unit) → World → Option β) : Option β :=
  allB [(bnd (mkS prog 22 (.int .i64 size12) (.int .i64 size12) w.drew) fun s_9 w_10 =>
  bnd (bldS prog 22 1 #[(0, (.int .u8 1))] w_10) fun s_11 w_12 =>
  bnd (bytes_Repeat K s_11 size12 w_12) fun r_13 w_14 =>
  (prog.built 52 [(0, (.int .i64 hash0)), (1, (.int .i64 limit1)), (3, (.slice s_9.a s_9.len s_9.cap)), (4, (.slice r_13.1.a r_13.1.len r_13.1.cap))]).bind fun cs_15 =>
  bnd (newB cs_15 52 w_14) fun p_16 w_17 =>
  k (p_16, ()) w_17),
   (bnd (bldS prog 22 1 #[(0, (.int .u8 1))] w.drew) fun s_18 w_19 =>
  allB [(bnd (mkS prog 22 (.int .i64 size12) (.int .i64 size12) w_19) fun s_20 w_21 =>
  bnd (bytes_Repeat K s_18 size12 w_21) fun r_22 w_23 =>
  (prog.built 52 [(0, (.int .i64 hash0)), (1, (.int .i64 limit1)), (3, (.slice s_20.a s_20.len s_20.cap)), (4, (.slice r_22.1.a r_22.1.len r_22.1.cap))]).bind fun cs_24 =>
  bnd (newB cs_24 52 w_23) fun p_25 w_26 =>
  k (p_25, ()) w_26),
   (bnd (bytes_Repeat K s_18 size12 w_19) fun r_27 w_28 =>
  bnd (mkS prog 22 (.int .i64 size12) (.int .i64 size12) w_28) fun s_29 w_30 =>
  (prog.built 52 [(0, (.int .i64 hash0)), (1, (.int .i64 limit1)), (3, (.slice s_29.a s_29.len s_29.cap)), (4, (.slice r_27.1.a r_27.1.len r_27.1.cap))]).bind fun cs_31 =>
  bnd (newB cs_31 52 w_30) fun p_32 w_33 =>
  k (p_32, ()) w_33)])]
/-- coffer/spring.New -/
noncomputable def spring_New {β : Type} (K : Nat) (hash0 : Int) (limit1 : Int) (entropy2 : Sl) (nonce3 : Sl) (personal4 : Sl) (w : World) (k : ((Option Addr) × Int × Unit) → World → Option β) : Option β :=
  bnd (digest_Size hash0 w) fun r_1 w_2 =>
  bnd (spring_New_s0 K limit1 entropy2 nonce3 personal4 r_1.1 w_2) fun y_6 w_7 =>
  (match y_6 with
  | .norm z_8n => (spring_New_s2 K hash0 limit1 r_1.1 w_7 fun y_34 w_35 =>
  bnd (bldS prog 49 3 #[(0, (.slice entropy2.a entropy2.len entropy2.cap)), (1, (.slice nonce3.a nonce3.len nonce3.cap)), (2, (.slice personal4.a personal4.len personal4.cap))] w_35) fun s_36 w_37 =>
  bnd (spring_Spring_update K (some y_34.1) s_36 w_37) fun r_38 w_39 =>
  k ((some y_34.1), 0, ()) w_39)
  | .ret z_8r => (k (z_8r.1, z_8r.2.1, ()) w_7))
theorem spring_New_s1_ok (K : Nat) : StmtNOk prog [(1, .int .i64)] [(19, .bool)] [(19, 26)] (fun x w => spring_New_s1 K x.1 w) (cd (bodyOf f14) [1, 1, 0, 0, 1, 1, 0]) :=
    mk_stmtN (O := tabL []) (root := (bodyOf f14)) (π := [1, 1, 0, 0, 1, 1, 0]) (Li := [(1, .int .i64)]) (Lo := [(19, .bool)]) (S := (fun x w => spring_New_s1 K x.1 w)) (spring_New_Eok K) (spring_New_Rok K) rfl (Orc.nil _ _ _) (by kernel_rfl) (fun _ _ => by kernel_rfl)
noncomputable def spring_New_s1_se (K : Nat) : SE := stmtN [(1, .int .i64)] [(19, .bool)] [(19, 26)] (fun x w => spring_New_s1 K x.1 w)
theorem spring_New_s1_se_ok (K : Nat) (R : Rg) (h : subRB [(19, 26)] R = true) : (spring_New_s1_se K).Ok prog R (cd (bodyOf f14) [1, 1, 0, 0, 1, 1, 0]) := stmtN_ok (Li := [(1, .int .i64)]) (Lo := [(19, .bool)]) (S := (fun x w => spring_New_s1 K x.1 w)) (spring_New_s1_ok K) (subR_of h)
theorem spring_New_s0_ok (K : Nat) : StmtOk prog [(1, .int .i64), (2, .sl), (3, .sl), (4, .sl), (12, .int .i64)] [] [(10, .ptr), (11, .int .i64)] [(10, 12), (16, 39)] (fun x w => spring_New_s0 K x.1 x.2.1 x.2.2.1 x.2.2.2.1 x.2.2.2.2.1 w) (cd (bodyOf f14) [1, 1, 0]) :=
    mk_stmt (O := tabL [([1, 1, 0, 0, 1, 1, 0], spring_New_s1_se K)]) (root := (bodyOf f14)) (π := [1, 1, 0]) (Li := [(1, .int .i64), (2, .sl), (3, .sl), (4, .sl), (12, .int .i64)]) (Lo := []) (Lr := [(10, .ptr), (11, .int .i64)]) (S := (fun x w => spring_New_s0 K x.1 x.2.1 x.2.2.1 x.2.2.2.1 x.2.2.2.2.1 w)) (spring_New_Eok K) (spring_New_Rok K) rfl (Orc.cons (by kernel_rfl) (spring_New_s1_se_ok K [(10, 12), (16, 39)] (by kernel_rfl)) (Orc.nil _ _ _)) (by kernel_rfl) (fun _ _ => by kernel_rfl)
noncomputable def spring_New_s0_se (K : Nat) : SE := stmt [(1, .int .i64), (2, .sl), (3, .sl), (4, .sl), (12, .int .i64)] [] [(10, .ptr), (11, .int .i64)] [(10, 12), (16, 39)] (fun x w => spring_New_s0 K x.1 x.2.1 x.2.2.1 x.2.2.2.1 x.2.2.2.2.1 w)
theorem spring_New_s0_se_ok (K : Nat) (R : Rg) (h : subRB [(10, 12), (16, 39)] R = true) : (spring_New_s0_se K).Ok prog R (cd (bodyOf f14) [1, 1, 0]) := stmt_ok (Li := [(1, .int .i64), (2, .sl), (3, .sl), (4, .sl), (12, .int .i64)]) (Lo := []) (Lr := [(10, .ptr), (11, .int .i64)]) (S := (fun x w => spring_New_s0 K x.1 x.2.1 x.2.2.1 x.2.2.2.1 x.2.2.2.2.1 w)) (spring_New_s0_ok K) (subR_of h)
theorem spring_New_s2_ok (K : Nat) : StmtCOk prog [(0, .int .i64), (1, .int .i64), (12, .int .i64)] [(13, .addr)] [(13, 14), (39, 48)] (fun {_} x w k => spring_New_s2 K x.1 x.2.1 x.2.2.1 w k) (cd (bodyOf f14) [1, 1, 1, 0]) :=
    mk_regionC (R := [(13, 14), (39, 48)]) (Li := [(0, .int .i64), (1, .int .i64), (12, .int .i64)]) (Lo := [(13, .addr)]) (S := (fun {_} x w k => spring_New_s2 K x.1 x.2.1 x.2.2.1 w k)) (spring_New_Eok K) (spring_New_Rok K) rfl (fun _ _ _ => by kernel_rfl)
noncomputable def spring_New_s2_se (K : Nat) : SE := stmtC [(0, .int .i64), (1, .int .i64), (12, .int .i64)] [(13, .addr)] [(13, 14), (39, 48)] (fun {_} x w k => spring_New_s2 K x.1 x.2.1 x.2.2.1 w k)
theorem spring_New_s2_se_ok (K : Nat) (R : Rg) (h : subRB [(13, 14), (39, 48)] R = true) : (spring_New_s2_se K).Ok prog R (cd (bodyOf f14) [1, 1, 1, 0]) := stmtC_ok (Li := [(0, .int .i64), (1, .int .i64), (12, .int .i64)]) (Lo := [(13, .addr)]) (S := (fun {_} x w k => spring_New_s2 K x.1 x.2.1 x.2.2.1 w k)) (spring_New_s2_ok K) (subR_of h)
theorem spring_New_facts : FunFacts prog 14 f14 (bodyOf f14) [(0, .int .i64), (1, .int .i64), (2, .sl), (3, .sl), (4, .sl)] [(0, 55)] := ⟨func14, by kernel_rfl, by kernel_rfl, by kernel_rfl, by kernel_rfl, by kernel_rfl⟩
theorem spring_New_calls (K : Nat) {β : Type} (x : TT [(0, .int .i64), (1, .int .i64), (2, .sl), (3, .sl), (4, .sl)]) (w : World) (k : TR [.ptr, .int .i64] → World → Option β) (r : β) (h : spring_New K x.1 x.2.1 x.2.2.1 x.2.2.2.1 x.2.2.2.2.1 w k = some r) : Calls prog 14 (encA [(0, .int .i64), (1, .int .i64), (2, .sl), (3, .sl), (4, .sl)] x).toArray w (fun e w3 => ∃ y, e = .returned (resV (encR [.ptr, .int .i64] y)) ∧ k y w3 = some r) :=
    mk_funC (O := tabL [([1, 1, 0], spring_New_s0_se K), ([1, 1, 0, 0, 1, 1, 0], spring_New_s1_se K), ([1, 1, 1, 0], spring_New_s2_se K)]) (Lp := [(0, .int .i64), (1, .int .i64), (2, .sl), (3, .sl), (4, .sl)]) (Rt := [.ptr, .int .i64]) (S := (fun x w k => spring_New K x.1 x.2.1 x.2.2.1 x.2.2.2.1 x.2.2.2.2.1 w k)) (spring_New_Eok K) (spring_New_Rok K) rfl spring_New_facts (Orc.cons (by kernel_rfl) (spring_New_s0_se_ok K [(0, 55)] (by kernel_rfl)) (Orc.cons (by kernel_rfl) (spring_New_s1_se_ok K [(0, 55)] (by kernel_rfl)) (Orc.cons (by kernel_rfl) (spring_New_s2_se_ok K [(0, 55)] (by kernel_rfl)) (Orc.nil _ _ _)))) (fun _ _ _ => by kernel_rfl) x w k r h
noncomputable def spring_New_ce (K : Nat) : CE := funC [(0, .int .i64), (1, .int .i64), (2, .sl), (3, .sl), (4, .sl)] [.ptr, .int .i64] (fun {_} x w k => spring_New K x.1 x.2.1 x.2.2.1 x.2.2.2.1 x.2.2.2.2.1 w k)
theorem spring_New_ok (K : Nat) : (spring_New_ce K).Ok prog 14 := funC_ok (Rt := [.ptr, .int .i64]) (S := (fun {_} x w k => spring_New K x.1 x.2.1 x.2.2.1 x.2.2.2.1 x.2.2.2.2.1 w k)) spring_New_facts fun x w k r h => spring_New_calls K x w k r h

noncomputable def ref01_Size_R : List (Nat × RE) := []
theorem ref01_Size_Rok : REnv.Ok prog (tab (ref01_Size_R)) := (REnv.nil _)
/-- coffer/cofferref01.Size -/
noncomputable def ref01_Size (hash0 : Int) : Option (Int × Unit) :=
  if (hash0 == 224) = true then (some ((IntKind.i64.wrap (Int.tdiv hash0 8)), ())) else (if (hash0 == 256) = true then (some ((IntKind.i64.wrap (Int.tdiv hash0 8)), ())) else (if (hash0 == 384) = true then (some ((IntKind.i64.wrap (Int.tdiv hash0 8)), ())) else (if (hash0 == 512) = true then (some ((IntKind.i64.wrap (Int.tdiv hash0 8)), ())) else (some (0, ())))))
theorem ref01_Size_facts : FunFacts prog 32 f32 (bodyOf f32) [(0, .int .i64)] [(0, 11)] := ⟨func32, by kernel_rfl, by kernel_rfl, by kernel_rfl, by kernel_rfl, by kernel_rfl⟩
theorem ref01_Size_calls (x : TT [(0, .int .i64)]) (w : World) (y : TR [.int .i64]) (h : ref01_Size x.1 = some y) : Calls prog 32 (encA [(0, .int .i64)] x).toArray w (fun e w3 => e = .returned (resV (encR [.int .i64] y)) ∧ w3 = w) :=
    mk_funQ (O := tabL []) (Lp := [(0, .int .i64)]) (Rt := [.int .i64]) (S := (fun x w => ref01_Size x.1)) (ref01_Size_Rok) ref01_Size_facts (OrcQ.nil _ _ _) (fun _ _ => by kernel_rfl) x w y h
noncomputable def ref01_Size_re : RE := funR [(0, .int .i64)] [.int .i64] (fun x w => ref01_Size x.1)
theorem ref01_Size_ok : (ref01_Size_re).Ok prog 32 := funR_ok (Rt := [.int .i64]) (S := (fun x w => ref01_Size x.1)) ref01_Size_facts fun x w y h => ref01_Size_calls x w y h

noncomputable def ref06_joined_E (K : Nat) : List (Nat × CE) := []
theorem ref06_joined_Eok (K : Nat) : Env.Ok prog (tab (ref06_joined_E K)) := (Env.nil _)
noncomputable def ref06_joined_R (K : Nat) : List (Nat × RE) := []
theorem ref06_joined_Rok (K : Nat) : REnv.Ok prog (tab (ref06_joined_R K)) := (REnv.nil _)
noncomputable def ref06_joined_l0_b (K : Nat) (rec : Sl → Sl → Int → World → Option ((Sl × Unit) × World)) (l0 : Sl) (out3 : Sl) (i4 : Int) (w : World) : Option ((Sl × Unit) × World) :=
  if (decide (i4 < ((l0.len : Nat) : Int))) = true then ((l0.a).bind fun p_1 =>
  if (0 : Int) ≤ i4 ∧ i4 < ((l0.len : Nat) : Int) then ((ldS (p_1.add ((Int.toNat i4) * 1)) w).bind fun v_2 =>
  bnd (apd prog 22 22 (.slice out3.a out3.len out3.cap) (.slice v_2.a v_2.len v_2.cap) w) fun s_3 w_4 =>
  rec l0 s_3 (IntKind.i64.wrap (i4 + 1)) w_4) else none) else (some ((out3, ()), w))
noncomputable def ref06_joined_l0 (K : Nat) (n : Nat) : Sl → Sl → Int → World → Option ((Sl × Unit) × World) := iter (fun _ _ _ _ => none) (ref06_joined_l0_b K) n
/-- coffer/cofferref06.joined -/
noncomputable def ref06_joined (K : Nat) (l0 : Sl) (w : World) : Option ((Sl × Unit) × World) :=
  bnd (ref06_joined_l0 K K l0 ⟨none, 0, 0⟩ 0 w) fun y_5 w_6 =>
  some ((y_5.1, ()), w_6)
theorem ref06_joined_l0_ok (K : Nat) (n : Nat) : StmtNOk prog [(0, .sl), (3, .sl), (4, .int .i64)] [(3, .sl)] [(3, 17)] ((fun n x w => ref06_joined_l0 K n x.1 x.2.1 x.2.2.1 w) n) (.block 0 (.loop (cd (bodyOf f26) [1, 1, 0, 1, 0, 0]))) :=
    mk_loopN (O := tabL []) (root := (bodyOf f26)) (π := [1, 1, 0, 1, 0, 0]) (id := 0) (Li := [(0, .sl), (3, .sl), (4, .int .i64)]) (Lo := [(3, .sl)]) (S := (fun n x w => ref06_joined_l0 K n x.1 x.2.1 x.2.2.1 w)) (body := cd (bodyOf f26) [1, 1, 0, 1, 0, 0]) (ref06_joined_Eok K) (ref06_joined_Rok K) rfl (Orc.nil _ _ _) (by kernel_rfl) (fun _ _ => by kernel_rfl) (fun _ _ _ => by kernel_rfl) n
noncomputable def ref06_joined_l0_se (K : Nat) : SE := stmtN [(0, .sl), (3, .sl), (4, .int .i64)] [(3, .sl)] [(3, 17)] (fun x w => ref06_joined_l0 K K x.1 x.2.1 x.2.2.1 w)
theorem ref06_joined_l0_se_ok (K : Nat) (R : Rg) (h : subRB [(3, 17)] R = true) : (ref06_joined_l0_se K).Ok prog R (.block 0 (.loop (cd (bodyOf f26) [1, 1, 0, 1, 0, 0]))) := stmtN_ok (Li := [(0, .sl), (3, .sl), (4, .int .i64)]) (Lo := [(3, .sl)]) (S := (fun x w => ref06_joined_l0 K K x.1 x.2.1 x.2.2.1 w)) (ref06_joined_l0_ok K K) (subR_of h)
theorem ref06_joined_facts : FunFacts prog 26 f26 (bodyOf f26) [(0, .sl)] [(0, 18)] := ⟨func26, by kernel_rfl, by kernel_rfl, by kernel_rfl, by kernel_rfl, by kernel_rfl⟩
theorem ref06_joined_calls (K : Nat) (x : TT [(0, .sl)]) (w : World) (y : TR [.sl]) (w2 : World) (h : ref06_joined K x.1 w = some (y, w2)) : Calls prog 26 (encA [(0, .sl)] x).toArray w (fun e w3 => e = .returned (resV (encR [.sl] y)) ∧ w3 = w2) :=
    mk_fun (O := tabL [([1, 1, 0, 1], ref06_joined_l0_se K)]) (Lp := [(0, .sl)]) (Rt := [.sl]) (S := (fun x w => ref06_joined K x.1 w)) (ref06_joined_Eok K) (ref06_joined_Rok K) rfl ref06_joined_facts (Orc.cons (by kernel_rfl) (ref06_joined_l0_se_ok K [(0, 18)] (by kernel_rfl)) (Orc.nil _ _ _)) (fun _ _ => by kernel_rfl) x w y w2 h
noncomputable def ref06_joined_ce (K : Nat) : CE := funE [(0, .sl)] [.sl] (fun x w => ref06_joined K x.1 w)
theorem ref06_joined_ok (K : Nat) : (ref06_joined_ce K).Ok prog 26 := funE_ok (Rt := [.sl]) (S := (fun x w => ref06_joined K x.1 w)) ref06_joined_facts fun x w y w2 h => ref06_joined_calls K x w y w2 h

end Go.Sh

/- What functions of the program do, as Lean functions; that the machine does just that. Printed by shal.py, a program of this claim's writer. -/
set_option maxRecDepth 100000
set_option linter.unusedVariables false
namespace Go.Sh
open Go.Fw Go.Proofs.Tryd

noncomputable def ref01_Block_R : List (Nat × RE) := []
theorem ref01_Block_Rok : REnv.Ok prog (tab (ref01_Block_R)) := (REnv.nil _)
noncomputable def ref01_Block_s0 (a3 : Int) (a4 : Bool) : Option (Out (Bool × Unit) (Int × Unit)) :=
  if a4 = true then (some (.norm (true, ()))) else (some (.norm ((a3 == 256), ())))
/-- coffer/cofferref01.Block -/
noncomputable def ref01_Block (hash0 : Int) : Option (Int × Unit) :=
  (ref01_Block_s0 hash0 (hash0 == 224)).bind fun y_1 =>
  (match y_1 with
  | .norm z_2n => (if z_2n.1 = true then (some (64, ())) else (if (hash0 == 384) = true then (some (128, ())) else (if (hash0 == 512) = true then (some (128, ())) else (some (0, ())))))
  | .ret z_2r => (some (z_2r.1, ())))
theorem ref01_Block_s0_ok : StmtQOk prog [(3, .int .i64), (4, .bool)] [(4, .bool)] [(2, .int .i64)] [(4, 5), (6, 7)] (fun x w => ref01_Block_s0 x.1 x.2.1) (cd (bodyOf f36) [1, 0, 1, 0, 0, 1]) :=
    mk_stmtQ (O := tabL []) (root := (bodyOf f36)) (π := [1, 0, 1, 0, 0, 1]) (Li := [(3, .int .i64), (4, .bool)]) (Lo := [(4, .bool)]) (Lr := [(2, .int .i64)]) (S := (fun x w => ref01_Block_s0 x.1 x.2.1)) (ref01_Block_Rok) (OrcQ.nil _ _ _) (by kernel_rfl) (fun _ _ => by kernel_rfl)
noncomputable def ref01_Block_s0_se : SQ := stmtQ [(3, .int .i64), (4, .bool)] [(4, .bool)] [(2, .int .i64)] [(4, 5), (6, 7)] (fun x w => ref01_Block_s0 x.1 x.2.1)
theorem ref01_Block_s0_se_ok (R : Rg) (h : subRB [(4, 5), (6, 7)] R = true) : (ref01_Block_s0_se).Ok prog R (cd (bodyOf f36) [1, 0, 1, 0, 0, 1]) := stmtQ_ok (Li := [(3, .int .i64), (4, .bool)]) (Lo := [(4, .bool)]) (Lr := [(2, .int .i64)]) (S := (fun x w => ref01_Block_s0 x.1 x.2.1)) (ref01_Block_s0_ok) (subR_of h)
theorem ref01_Block_facts : FunFacts prog 36 f36 (bodyOf f36) [(0, .int .i64)] [(0, 10)] := ⟨func36, by kernel_rfl, by kernel_rfl, by kernel_rfl, by kernel_rfl, by kernel_rfl⟩
theorem ref01_Block_calls (x : TT [(0, .int .i64)]) (w : World) (y : TR [.int .i64]) (h : ref01_Block x.1 = some y) : Calls prog 36 (encA [(0, .int .i64)] x).toArray w (fun e w3 => e = .returned (resV (encR [.int .i64] y)) ∧ w3 = w) :=
    mk_funQ (O := tabL [([1, 0, 1, 0, 0, 1], ref01_Block_s0_se)]) (Lp := [(0, .int .i64)]) (Rt := [.int .i64]) (S := (fun x w => ref01_Block x.1)) (ref01_Block_Rok) ref01_Block_facts (OrcQ.cons (by kernel_rfl) (ref01_Block_s0_se_ok [(0, 10)] (by kernel_rfl)) (OrcQ.nil _ _ _)) (fun _ _ => by kernel_rfl) x w y h
noncomputable def ref01_Block_re : RE := funR [(0, .int .i64)] [.int .i64] (fun x w => ref01_Block x.1)
theorem ref01_Block_ok : (ref01_Block_re).Ok prog 36 := funR_ok (Rt := [.int .i64]) (S := (fun x w => ref01_Block x.1)) ref01_Block_facts fun x w y h => ref01_Block_calls x w y h

noncomputable def ref01_first_E (K : Nat) : List (Nat × CE) := []
theorem ref01_first_Eok (K : Nat) : Env.Ok prog (tab (ref01_first_E K)) := (Env.nil _)
noncomputable def ref01_first_R (K : Nat) : List (Nat × RE) := []
theorem ref01_first_Rok (K : Nat) : REnv.Ok prog (tab (ref01_first_R K)) := (REnv.nil _)
noncomputable def ref01_first_l0_b (K : Nat) (rec : Int → Addr → Addr → Int → World → Option ((Unit) × World)) (hash0 : Int) (a2 : Addr) (h3 : Addr) (i4 : Int) (w : World) : Option ((Unit) × World) :=
  if (decide (i4 < 8)) = true then (if (hash0 == 224) = true then (if (0 : Int) ≤ (IntKind.i64.wrap (8 + i4)) ∧ (IntKind.i64.wrap (8 + i4)) < ((16 : Nat) : Int) then ((ldI .u64 ((⟨1, 0, none⟩ : Addr).add ((Int.toNat (IntKind.i64.wrap (8 + i4))) * 1)) w).bind fun v_5 =>
  if (0 : Int) ≤ i4 ∧ i4 < ((8 : Nat) : Int) then ((stC (h3.add ((Int.toNat i4) * 1)) (.int .u64 (Int.tmod v_5 4294967296)) w).bind fun w_6 =>
  rec hash0 a2 h3 (IntKind.i64.wrap (i4 + 1)) w_6) else none) else none) else (if (hash0 == 256) = true then (if (0 : Int) ≤ i4 ∧ i4 < ((16 : Nat) : Int) then ((ldI .u64 ((⟨1, 0, none⟩ : Addr).add ((Int.toNat i4) * 1)) w).bind fun v_7 =>
  if (0 : Int) ≤ i4 ∧ i4 < ((8 : Nat) : Int) then ((stC (h3.add ((Int.toNat i4) * 1)) (.int .u64 (Int.fdiv v_7 (2 ^ 32))) w).bind fun w_8 =>
  rec hash0 a2 h3 (IntKind.i64.wrap (i4 + 1)) w_8) else none) else none) else (if (hash0 == 384) = true then (if (0 : Int) ≤ (IntKind.i64.wrap (8 + i4)) ∧ (IntKind.i64.wrap (8 + i4)) < ((16 : Nat) : Int) then ((ldI .u64 ((⟨1, 0, none⟩ : Addr).add ((Int.toNat (IntKind.i64.wrap (8 + i4))) * 1)) w).bind fun v_9 =>
  if (0 : Int) ≤ i4 ∧ i4 < ((8 : Nat) : Int) then ((stC (h3.add ((Int.toNat i4) * 1)) (.int .u64 v_9) w).bind fun w_10 =>
  rec hash0 a2 h3 (IntKind.i64.wrap (i4 + 1)) w_10) else none) else none) else (if (hash0 == 512) = true then (if (0 : Int) ≤ i4 ∧ i4 < ((16 : Nat) : Int) then ((ldI .u64 ((⟨1, 0, none⟩ : Addr).add ((Int.toNat i4) * 1)) w).bind fun v_11 =>
  if (0 : Int) ≤ i4 ∧ i4 < ((8 : Nat) : Int) then ((stC (h3.add ((Int.toNat i4) * 1)) (.int .u64 v_11) w).bind fun w_12 =>
  rec hash0 a2 h3 (IntKind.i64.wrap (i4 + 1)) w_12) else none) else none) else (rec hash0 a2 h3 (IntKind.i64.wrap (i4 + 1)) w))))) else (some ((), w))
noncomputable def ref01_first_l0 (K : Nat) (n : Nat) : Int → Addr → Addr → Int → World → Option ((Unit) × World) := iter (fun _ _ _ _ _ => none) (ref01_first_l0_b K) n
/-- coffer/cofferref01.first -/
noncomputable def ref01_first (K : Nat) (hash0 : Int) (w : World) : Option (((Array Value) × Unit) × World) :=
  bnd (newB z81 81 w) fun p_1 w_2 =>
  bnd (newB z81 81 w_2) fun h_3 w_4 =>
  bnd (ref01_first_l0 K K hash0 p_1 h_3 0 w_4) fun y_13 w_14 =>
  (ldA 8 h_3 w_14).bind fun v_15 =>
  if (v_15).size = 8 then ((stA p_1 v_15 w_14).bind fun w_16 =>
  (ldA 8 p_1 w_16).bind fun res_17 =>
  some ((res_17, ()), w_16)) else none
theorem ref01_first_l0_ok (K : Nat) (n : Nat) : StmtNOk prog [(0, .int .i64), (2, .addr), (3, .addr), (4, .int .i64)] [] [(4, 42)] ((fun n x w => ref01_first_l0 K n x.1 x.2.1 x.2.2.1 x.2.2.2.1 w) n) (.block 0 (.loop (cd (bodyOf f44) [1, 1, 0, 1, 0, 0]))) :=
    mk_loopN (O := tabL []) (root := (bodyOf f44)) (π := [1, 1, 0, 1, 0, 0]) (id := 0) (Li := [(0, .int .i64), (2, .addr), (3, .addr), (4, .int .i64)]) (Lo := []) (S := (fun n x w => ref01_first_l0 K n x.1 x.2.1 x.2.2.1 x.2.2.2.1 w)) (body := cd (bodyOf f44) [1, 1, 0, 1, 0, 0]) (ref01_first_Eok K) (ref01_first_Rok K) rfl (Orc.nil _ _ _) (by kernel_rfl) (fun _ _ => by kernel_rfl) (fun _ _ _ => by kernel_rfl) n
noncomputable def ref01_first_l0_se (K : Nat) : SE := stmtN [(0, .int .i64), (2, .addr), (3, .addr), (4, .int .i64)] [] [(4, 42)] (fun x w => ref01_first_l0 K K x.1 x.2.1 x.2.2.1 x.2.2.2.1 w)
theorem ref01_first_l0_se_ok (K : Nat) (R : Rg) (h : subRB [(4, 42)] R = true) : (ref01_first_l0_se K).Ok prog R (.block 0 (.loop (cd (bodyOf f44) [1, 1, 0, 1, 0, 0]))) := stmtN_ok (Li := [(0, .int .i64), (2, .addr), (3, .addr), (4, .int .i64)]) (Lo := []) (S := (fun x w => ref01_first_l0 K K x.1 x.2.1 x.2.2.1 x.2.2.2.1 w)) (ref01_first_l0_ok K K) (subR_of h)
theorem ref01_first_facts : FunFacts prog 44 f44 (bodyOf f44) [(0, .int .i64)] [(0, 43)] := ⟨func44, by kernel_rfl, by kernel_rfl, by kernel_rfl, by kernel_rfl, by kernel_rfl⟩
theorem ref01_first_calls (K : Nat) (x : TT [(0, .int .i64)]) (w : World) (y : TR [.agg]) (w2 : World) (h : ref01_first K x.1 w = some (y, w2)) : Calls prog 44 (encA [(0, .int .i64)] x).toArray w (fun e w3 => e = .returned (resV (encR [.agg] y)) ∧ w3 = w2) :=
    mk_fun (O := tabL [([1, 1, 0, 1], ref01_first_l0_se K)]) (Lp := [(0, .int .i64)]) (Rt := [.agg]) (S := (fun x w => ref01_first K x.1 w)) (ref01_first_Eok K) (ref01_first_Rok K) rfl ref01_first_facts (Orc.cons (by kernel_rfl) (ref01_first_l0_se_ok K [(0, 43)] (by kernel_rfl)) (Orc.nil _ _ _)) (fun _ _ => by kernel_rfl) x w y w2 h
noncomputable def ref01_first_ce (K : Nat) : CE := funE [(0, .int .i64)] [.agg] (fun x w => ref01_first K x.1 w)
theorem ref01_first_ok (K : Nat) : (ref01_first_ce K).Ok prog 44 := funE_ok (Rt := [.agg]) (S := (fun x w => ref01_first K x.1 w)) ref01_first_facts fun x w y w2 h => ref01_first_calls K x w y w2 h

noncomputable def ref01_laid_E (K : Nat) : List (Nat × CE) := []
theorem ref01_laid_Eok (K : Nat) : Env.Ok prog (tab (ref01_laid_E K)) := (Env.nil _)
noncomputable def ref01_laid_R (K : Nat) : List (Nat × RE) := []
theorem ref01_laid_Rok (K : Nat) : REnv.Ok prog (tab (ref01_laid_R K)) := (REnv.nil _)
noncomputable def ref01_laid_l0_b (K : Nat) (rec : Sl → Int → Sl → World → Option ((Sl × Unit) × World)) (b0 : Sl) (block1 : Int) (p5 : Sl) (w : World) : Option ((Sl × Unit) × World) :=
  if block1 ≠ 0 then (if ((Int.tmod (IntKind.i64.wrap (((p5.len : Nat) : Int) + (IntKind.i64.wrap (Int.tdiv block1 8)))) block1) != 0) = true then (bnd (bldS prog 22 1 #[(0, (.int .u8 0))] w) fun s_7 w_8 =>
  bnd (apd prog 22 22 (.slice p5.a p5.len p5.cap) (.slice s_7.a s_7.len s_7.cap) w_8) fun s_9 w_10 =>
  rec b0 block1 s_9 w_10) else (some ((p5, ()), w))) else none
noncomputable def ref01_laid_l0 (K : Nat) (n : Nat) : Sl → Int → Sl → World → Option ((Sl × Unit) × World) := iter (fun _ _ _ _ => none) (ref01_laid_l0_b K) n
noncomputable def ref01_laid_l1_b (K : Nat) (rec : Sl → Int → Int → World → Option ((Sl × Unit) × World)) (p5 : Sl) (bits6 : Int) (i7 : Int) (w : World) : Option ((Sl × Unit) × World) :=
  if (decide (i7 ≥ 0)) = true then (if (decide (i7 ≥ 8)) = true then (bnd (bldS prog 22 1 #[(0, (.int .u8 0))] w) fun s_13 w_14 =>
  bnd (apd prog 22 22 (.slice p5.a p5.len p5.cap) (.slice s_13.a s_13.len s_13.cap) w_14) fun s_15 w_16 =>
  rec s_15 bits6 (IntKind.i64.wrap (i7 - 1)) w_16) else (if (0 : Int) ≤ (IntKind.u64.wrap (IntKind.i64.wrap (8 * i7))) then (bnd (bldS prog 22 1 #[(0, (.int .u8 (IntKind.u8.wrap (Int.fdiv bits6 (2 ^ (min (Int.toNat (IntKind.u64.wrap (IntKind.i64.wrap (8 * i7)))) IntKind.u64.bits))))))] w) fun s_17 w_18 =>
  bnd (apd prog 22 22 (.slice p5.a p5.len p5.cap) (.slice s_17.a s_17.len s_17.cap) w_18) fun s_19 w_20 =>
  rec s_19 bits6 (IntKind.i64.wrap (i7 - 1)) w_20) else none)) else (some ((p5, ()), w))
noncomputable def ref01_laid_l1 (K : Nat) (n : Nat) : Sl → Int → Int → World → Option ((Sl × Unit) × World) := iter (fun _ _ _ _ => none) (ref01_laid_l1_b K) n
/-- coffer/cofferref01.laid -/
noncomputable def ref01_laid (K : Nat) (b0 : Sl) (block1 : Int) (w : World) : Option ((Sl × Unit) × World) :=
  bnd (apd prog 22 22 (.slice none 0 0) (.slice b0.a b0.len b0.cap) w) fun s_1 w_2 =>
  bnd (bldS prog 22 1 #[(0, (.int .u8 128))] w_2) fun s_3 w_4 =>
  bnd (apd prog 22 22 (.slice s_1.a s_1.len s_1.cap) (.slice s_3.a s_3.len s_3.cap) w_4) fun s_5 w_6 =>
  bnd (ref01_laid_l0 K K b0 block1 s_5 w_6) fun y_11 w_12 =>
  bnd (ref01_laid_l1 K K y_11.1 (IntKind.u64.wrap ((IntKind.u64.wrap ((b0.len : Nat) : Int)) * 8)) (IntKind.i64.wrap ((IntKind.i64.wrap (Int.tdiv block1 8)) - 1)) w_12) fun y_21 w_22 =>
  some ((y_21.1, ()), w_22)
theorem ref01_laid_l0_ok (K : Nat) (n : Nat) : StmtNOk prog [(0, .sl), (1, .int .i64), (5, .sl)] [(5, .sl)] [(5, 6), (14, 25)] ((fun n x w => ref01_laid_l0 K n x.1 x.2.1 x.2.2.1 w) n) (.block 0 (.loop (cd (bodyOf f45) [1, 1, 1, 1, 0, 0, 0]))) :=
    mk_loopN (O := tabL []) (root := (bodyOf f45)) (π := [1, 1, 1, 1, 0, 0, 0]) (id := 0) (Li := [(0, .sl), (1, .int .i64), (5, .sl)]) (Lo := [(5, .sl)]) (S := (fun n x w => ref01_laid_l0 K n x.1 x.2.1 x.2.2.1 w)) (body := cd (bodyOf f45) [1, 1, 1, 1, 0, 0, 0]) (ref01_laid_Eok K) (ref01_laid_Rok K) rfl (Orc.nil _ _ _) (by kernel_rfl) (fun _ _ => by kernel_rfl) (fun _ _ _ => by kernel_rfl) n
noncomputable def ref01_laid_l0_se (K : Nat) : SE := stmtN [(0, .sl), (1, .int .i64), (5, .sl)] [(5, .sl)] [(5, 6), (14, 25)] (fun x w => ref01_laid_l0 K K x.1 x.2.1 x.2.2.1 w)
theorem ref01_laid_l0_se_ok (K : Nat) (R : Rg) (h : subRB [(5, 6), (14, 25)] R = true) : (ref01_laid_l0_se K).Ok prog R (.block 0 (.loop (cd (bodyOf f45) [1, 1, 1, 1, 0, 0, 0]))) := stmtN_ok (Li := [(0, .sl), (1, .int .i64), (5, .sl)]) (Lo := [(5, .sl)]) (S := (fun x w => ref01_laid_l0 K K x.1 x.2.1 x.2.2.1 w)) (ref01_laid_l0_ok K K) (subR_of h)
theorem ref01_laid_l1_ok (K : Nat) (n : Nat) : StmtNOk prog [(5, .sl), (6, .int .u64), (7, .int .i64)] [(5, .sl)] [(5, 6), (7, 8), (32, 50)] ((fun n x w => ref01_laid_l1 K n x.1 x.2.1 x.2.2.1 w) n) (.block 2 (.loop (cd (bodyOf f45) [1, 1, 1, 1, 1, 1, 0, 1, 0, 0]))) :=
    mk_loopN (O := tabL []) (root := (bodyOf f45)) (π := [1, 1, 1, 1, 1, 1, 0, 1, 0, 0]) (id := 2) (Li := [(5, .sl), (6, .int .u64), (7, .int .i64)]) (Lo := [(5, .sl)]) (S := (fun n x w => ref01_laid_l1 K n x.1 x.2.1 x.2.2.1 w)) (body := cd (bodyOf f45) [1, 1, 1, 1, 1, 1, 0, 1, 0, 0]) (ref01_laid_Eok K) (ref01_laid_Rok K) rfl (Orc.nil _ _ _) (by kernel_rfl) (fun _ _ => by kernel_rfl) (fun _ _ _ => by kernel_rfl) n
noncomputable def ref01_laid_l1_se (K : Nat) : SE := stmtN [(5, .sl), (6, .int .u64), (7, .int .i64)] [(5, .sl)] [(5, 6), (7, 8), (32, 50)] (fun x w => ref01_laid_l1 K K x.1 x.2.1 x.2.2.1 w)
theorem ref01_laid_l1_se_ok (K : Nat) (R : Rg) (h : subRB [(5, 6), (7, 8), (32, 50)] R = true) : (ref01_laid_l1_se K).Ok prog R (.block 2 (.loop (cd (bodyOf f45) [1, 1, 1, 1, 1, 1, 0, 1, 0, 0]))) := stmtN_ok (Li := [(5, .sl), (6, .int .u64), (7, .int .i64)]) (Lo := [(5, .sl)]) (S := (fun x w => ref01_laid_l1 K K x.1 x.2.1 x.2.2.1 w)) (ref01_laid_l1_ok K K) (subR_of h)
theorem ref01_laid_facts : FunFacts prog 45 f45 (bodyOf f45) [(0, .sl), (1, .int .i64)] [(0, 51)] := ⟨func45, by kernel_rfl, by kernel_rfl, by kernel_rfl, by kernel_rfl, by kernel_rfl⟩
theorem ref01_laid_calls (K : Nat) (x : TT [(0, .sl), (1, .int .i64)]) (w : World) (y : TR [.sl]) (w2 : World) (h : ref01_laid K x.1 x.2.1 w = some (y, w2)) : Calls prog 45 (encA [(0, .sl), (1, .int .i64)] x).toArray w (fun e w3 => e = .returned (resV (encR [.sl] y)) ∧ w3 = w2) :=
    mk_fun (O := tabL [([1, 1, 1, 1, 0], ref01_laid_l0_se K), ([1, 1, 1, 1, 1, 1, 0, 1], ref01_laid_l1_se K)]) (Lp := [(0, .sl), (1, .int .i64)]) (Rt := [.sl]) (S := (fun x w => ref01_laid K x.1 x.2.1 w)) (ref01_laid_Eok K) (ref01_laid_Rok K) rfl ref01_laid_facts (Orc.cons (by kernel_rfl) (ref01_laid_l0_se_ok K [(0, 51)] (by kernel_rfl)) (Orc.cons (by kernel_rfl) (ref01_laid_l1_se_ok K [(0, 51)] (by kernel_rfl)) (Orc.nil _ _ _))) (fun _ _ => by kernel_rfl) x w y w2 h
noncomputable def ref01_laid_ce (K : Nat) : CE := funE [(0, .sl), (1, .int .i64)] [.sl] (fun x w => ref01_laid K x.1 x.2.1 w)
theorem ref01_laid_ok (K : Nat) : (ref01_laid_ce K).Ok prog 45 := funE_ok (Rt := [.sl]) (S := (fun x w => ref01_laid K x.1 x.2.1 w)) ref01_laid_facts fun x w y w2 h => ref01_laid_calls K x w y w2 h

noncomputable def ref01_taken32_E (K : Nat) : List (Nat × CE) := []
theorem ref01_taken32_Eok (K : Nat) : Env.Ok prog (tab (ref01_taken32_E K)) := (Env.nil _)
noncomputable def ref01_taken32_R (K : Nat) : List (Nat × RE) := []
theorem ref01_taken32_Rok (K : Nat) : REnv.Ok prog (tab (ref01_taken32_R K)) := (REnv.nil _)
noncomputable def ref01_taken32_l0_b (K : Nat) (rec : Sl → Addr → Addr → Addr → Addr → Int → World → Option ((Unit) × World)) (block1 : Sl) (h3 : Addr) (k5 : Addr) (a6 : Addr) (w7 : Addr) (t8 : Int) (w : World) : Option ((Unit) × World) :=
  if (decide (t8 < 16)) = true then ((block1.a).bind fun p_9 =>
  if (0 : Int) ≤ (IntKind.i64.wrap (4 * t8)) ∧ (IntKind.i64.wrap (4 * t8)) < ((block1.len : Nat) : Int) then ((block1.a).bind fun p_10 =>
  if (0 : Int) ≤ (IntKind.i64.wrap ((IntKind.i64.wrap (4 * t8)) + 1)) ∧ (IntKind.i64.wrap ((IntKind.i64.wrap (4 * t8)) + 1)) < ((block1.len : Nat) : Int) then ((block1.a).bind fun p_11 =>
  if (0 : Int) ≤ (IntKind.i64.wrap ((IntKind.i64.wrap (4 * t8)) + 2)) ∧ (IntKind.i64.wrap ((IntKind.i64.wrap (4 * t8)) + 2)) < ((block1.len : Nat) : Int) then ((block1.a).bind fun p_12 =>
  if (0 : Int) ≤ (IntKind.i64.wrap ((IntKind.i64.wrap (4 * t8)) + 3)) ∧ (IntKind.i64.wrap ((IntKind.i64.wrap (4 * t8)) + 3)) < ((block1.len : Nat) : Int) then ((ldI .u8 (p_9.add ((Int.toNat (IntKind.i64.wrap (4 * t8))) * 1)) w.drew).bind fun v_13 =>
  (ldI .u8 (p_10.add ((Int.toNat (IntKind.i64.wrap ((IntKind.i64.wrap (4 * t8)) + 1))) * 1)) w.drew).bind fun v_14 =>
  (ldI .u8 (p_11.add ((Int.toNat (IntKind.i64.wrap ((IntKind.i64.wrap (4 * t8)) + 2))) * 1)) w.drew).bind fun v_15 =>
  (ldI .u8 (p_12.add ((Int.toNat (IntKind.i64.wrap ((IntKind.i64.wrap (4 * t8)) + 3))) * 1)) w.drew).bind fun v_16 =>
  if (0 : Int) ≤ t8 ∧ t8 < ((64 : Nat) : Int) then ((stC (w7.add ((Int.toNat t8) * 1)) (.int .u32 (bits .or .u32 (bits .or .u32 (bits .or .u32 (IntKind.u32.wrap ((IntKind.u32.wrap v_13) * 2 ^ 24)) (IntKind.u32.wrap ((IntKind.u32.wrap v_14) * 2 ^ 16))) (IntKind.u32.wrap ((IntKind.u32.wrap v_15) * 2 ^ 8))) (IntKind.u32.wrap v_16))) w.drew).bind fun w_17 =>
  rec block1 h3 k5 a6 w7 (IntKind.i64.wrap (t8 + 1)) w_17) else none) else none) else none) else none) else none) else (some ((), w))
noncomputable def ref01_taken32_l0 (K : Nat) (n : Nat) : Sl → Addr → Addr → Addr → Addr → Int → World → Option ((Unit) × World) := iter (fun _ _ _ _ _ _ _ => none) (ref01_taken32_l0_b K) n
noncomputable def ref01_taken32_l1_b (K : Nat) (rec : Addr → Addr → Addr → Addr → Int → World → Option ((Unit) × World)) (h3 : Addr) (k5 : Addr) (a6 : Addr) (w7 : Addr) (t9 : Int) (w : World) : Option ((Unit) × World) :=
  if (decide (t9 < 64)) = true then (if (0 : Int) ≤ (IntKind.i64.wrap (t9 - 15)) ∧ (IntKind.i64.wrap (t9 - 15)) < ((64 : Nat) : Int) then ((ldI .u32 (w7.add ((Int.toNat (IntKind.i64.wrap (t9 - 15))) * 1)) w).bind fun v_20 =>
  if (0 : Int) ≤ (IntKind.i64.wrap (t9 - 2)) ∧ (IntKind.i64.wrap (t9 - 2)) < ((64 : Nat) : Int) then ((ldI .u32 (w7.add ((Int.toNat (IntKind.i64.wrap (t9 - 2))) * 1)) w).bind fun v_21 =>
  if (0 : Int) ≤ (IntKind.i64.wrap (t9 - 7)) ∧ (IntKind.i64.wrap (t9 - 7)) < ((64 : Nat) : Int) then (if (0 : Int) ≤ (IntKind.i64.wrap (t9 - 16)) ∧ (IntKind.i64.wrap (t9 - 16)) < ((64 : Nat) : Int) then ((ldI .u32 (w7.add ((Int.toNat (IntKind.i64.wrap (t9 - 7))) * 1)) w.drew).bind fun v_22 =>
  (ldI .u32 (w7.add ((Int.toNat (IntKind.i64.wrap (t9 - 16))) * 1)) w.drew).bind fun v_23 =>
  if (0 : Int) ≤ t9 ∧ t9 < ((64 : Nat) : Int) then ((stC (w7.add ((Int.toNat t9) * 1)) (.int .u32 (IntKind.u32.wrap ((IntKind.u32.wrap ((IntKind.u32.wrap ((bits .xor .u32 (bits .xor .u32 (bits .or .u32 (Int.fdiv v_21 (2 ^ 17)) (IntKind.u32.wrap (v_21 * 2 ^ 15))) (bits .or .u32 (Int.fdiv v_21 (2 ^ 19)) (IntKind.u32.wrap (v_21 * 2 ^ 13)))) (Int.fdiv v_21 (2 ^ 10))) + v_22)) + (bits .xor .u32 (bits .xor .u32 (bits .or .u32 (Int.fdiv v_20 (2 ^ 7)) (IntKind.u32.wrap (v_20 * 2 ^ 25))) (bits .or .u32 (Int.fdiv v_20 (2 ^ 18)) (IntKind.u32.wrap (v_20 * 2 ^ 14)))) (Int.fdiv v_20 (2 ^ 3))))) + v_23))) w.drew).bind fun w_24 =>
  rec h3 k5 a6 w7 (IntKind.i64.wrap (t9 + 1)) w_24) else none) else none) else none) else none) else none) else (some ((), w))
noncomputable def ref01_taken32_l1 (K : Nat) (n : Nat) : Addr → Addr → Addr → Addr → Int → World → Option ((Unit) × World) := iter (fun _ _ _ _ _ _ => none) (ref01_taken32_l1_b K) n
noncomputable def ref01_taken32_l2_b (K : Nat) (rec : Addr → Addr → Addr → Addr → Int → Int → Int → Int → Int → Int → Int → Int → Int → World → Option ((Int × Int × Int × Int × Int × Int × Int × Int × Unit) × World)) (h3 : Addr) (k5 : Addr) (a6 : Addr) (w7 : Addr) (a14 : Int) (b15 : Int) (c16 : Int) (d17 : Int) (e18 : Int) (f19 : Int) (g20 : Int) (z21 : Int) (t22 : Int) (w : World) : Option ((Int × Int × Int × Int × Int × Int × Int × Int × Unit) × World) :=
  if (decide (t22 < 64)) = true then (if (0 : Int) ≤ t22 ∧ t22 < ((64 : Nat) : Int) then (if (0 : Int) ≤ t22 ∧ t22 < ((64 : Nat) : Int) then ((ldI .u32 (k5.add ((Int.toNat t22) * 1)) w.drew).bind fun v_35 =>
  (ldI .u32 (w7.add ((Int.toNat t22) * 1)) w.drew).bind fun v_36 =>
  rec h3 k5 a6 w7 (IntKind.u32.wrap ((IntKind.u32.wrap ((IntKind.u32.wrap ((IntKind.u32.wrap ((IntKind.u32.wrap (z21 + (bits .xor .u32 (bits .xor .u32 (bits .or .u32 (Int.fdiv e18 (2 ^ 6)) (IntKind.u32.wrap (e18 * 2 ^ 26))) (bits .or .u32 (Int.fdiv e18 (2 ^ 11)) (IntKind.u32.wrap (e18 * 2 ^ 21)))) (bits .or .u32 (Int.fdiv e18 (2 ^ 25)) (IntKind.u32.wrap (e18 * 2 ^ 7)))))) + (bits .or .u32 (bits .and .u32 e18 f19) (bits .and .u32 (bits .xor .u32 IntKind.u32.max e18) g20)))) + v_35)) + v_36)) + (IntKind.u32.wrap ((bits .xor .u32 (bits .xor .u32 (bits .or .u32 (Int.fdiv a14 (2 ^ 2)) (IntKind.u32.wrap (a14 * 2 ^ 30))) (bits .or .u32 (Int.fdiv a14 (2 ^ 13)) (IntKind.u32.wrap (a14 * 2 ^ 19)))) (bits .or .u32 (Int.fdiv a14 (2 ^ 22)) (IntKind.u32.wrap (a14 * 2 ^ 10)))) + (bits .or .u32 (bits .or .u32 (bits .and .u32 a14 b15) (bits .and .u32 a14 c16)) (bits .and .u32 b15 c16)))))) a14 b15 c16 (IntKind.u32.wrap (d17 + (IntKind.u32.wrap ((IntKind.u32.wrap ((IntKind.u32.wrap ((IntKind.u32.wrap (z21 + (bits .xor .u32 (bits .xor .u32 (bits .or .u32 (Int.fdiv e18 (2 ^ 6)) (IntKind.u32.wrap (e18 * 2 ^ 26))) (bits .or .u32 (Int.fdiv e18 (2 ^ 11)) (IntKind.u32.wrap (e18 * 2 ^ 21)))) (bits .or .u32 (Int.fdiv e18 (2 ^ 25)) (IntKind.u32.wrap (e18 * 2 ^ 7)))))) + (bits .or .u32 (bits .and .u32 e18 f19) (bits .and .u32 (bits .xor .u32 IntKind.u32.max e18) g20)))) + v_35)) + v_36)))) e18 f19 g20 (IntKind.i64.wrap (t22 + 1)) w.drew) else none) else none) else (some ((a14, b15, c16, d17, e18, f19, g20, z21, ()), w))
noncomputable def ref01_taken32_l2 (K : Nat) (n : Nat) : Addr → Addr → Addr → Addr → Int → Int → Int → Int → Int → Int → Int → Int → Int → World → Option ((Int × Int × Int × Int × Int × Int × Int × Int × Unit) × World) := iter (fun _ _ _ _ _ _ _ _ _ _ _ _ _ _ => none) (ref01_taken32_l2_b K) n
/-- coffer/cofferref01.taken32 -/
noncomputable def ref01_taken32 (K : Nat) (h0 : Array Value) (block1 : Sl) (k2 : Array Value) (w : World) : Option (((Array Value) × Unit) × World) :=
  bnd (newB h0 102 w) fun p_1 w_2 =>
  bnd (newB k2 100 w_2) fun p_3 w_4 =>
  bnd (newB z102 102 w_4) fun p_5 w_6 =>
  bnd (newB z100 100 w_6) fun w_7 w_8 =>
  bnd (ref01_taken32_l0 K K block1 p_1 p_3 p_5 w_7 0 w_8) fun y_18 w_19 =>
  bnd (ref01_taken32_l1 K K p_1 p_3 p_5 w_7 16 w_19) fun y_25 w_26 =>
  (ldI .u32 (p_1.add (0 * 1)) w_26.drew).bind fun v_27 =>
  (ldI .u32 (p_1.add (1 * 1)) w_26.drew).bind fun v_28 =>
  (ldI .u32 (p_1.add (2 * 1)) w_26.drew).bind fun v_29 =>
  (ldI .u32 (p_1.add (3 * 1)) w_26.drew).bind fun v_30 =>
  (ldI .u32 (p_1.add (4 * 1)) w_26.drew.drew).bind fun v_31 =>
  (ldI .u32 (p_1.add (5 * 1)) w_26.drew.drew).bind fun v_32 =>
  (ldI .u32 (p_1.add (6 * 1)) w_26.drew.drew).bind fun v_33 =>
  (ldI .u32 (p_1.add (7 * 1)) w_26.drew.drew).bind fun v_34 =>
  bnd (ref01_taken32_l2 K K p_1 p_3 p_5 w_7 v_27 v_28 v_29 v_30 v_31 v_32 v_33 v_34 0 w_26.drew.drew) fun y_37 w_38 =>
  (ldI .u32 (p_1.add (0 * 1)) w_38).bind fun v_39 =>
  (ldI .u32 (p_1.add (1 * 1)) w_38).bind fun v_40 =>
  (ldI .u32 (p_1.add (2 * 1)) w_38).bind fun v_41 =>
  (ldI .u32 (p_1.add (3 * 1)) w_38).bind fun v_42 =>
  (ldI .u32 (p_1.add (4 * 1)) w_38).bind fun v_43 =>
  (ldI .u32 (p_1.add (5 * 1)) w_38).bind fun v_44 =>
  (ldI .u32 (p_1.add (6 * 1)) w_38).bind fun v_45 =>
  (ldI .u32 (p_1.add (7 * 1)) w_38).bind fun v_46 =>
  (prog.built 102 [(0, (.int .u32 (IntKind.u32.wrap (v_39 + y_37.1)))), (1, (.int .u32 (IntKind.u32.wrap (v_40 + y_37.2.1)))), (2, (.int .u32 (IntKind.u32.wrap (v_41 + y_37.2.2.1)))), (3, (.int .u32 (IntKind.u32.wrap (v_42 + y_37.2.2.2.1)))), (4, (.int .u32 (IntKind.u32.wrap (v_43 + y_37.2.2.2.2.1)))), (5, (.int .u32 (IntKind.u32.wrap (v_44 + y_37.2.2.2.2.2.1)))), (6, (.int .u32 (IntKind.u32.wrap (v_45 + y_37.2.2.2.2.2.2.1)))), (7, (.int .u32 (IntKind.u32.wrap (v_46 + y_37.2.2.2.2.2.2.2.1))))]).bind fun cs_47 =>
  if (cs_47).size = 8 then ((stA p_5 cs_47 w_38).bind fun w_48 =>
  (ldA 8 p_5 w_48).bind fun res_49 =>
  some ((res_49, ()), w_48)) else none
theorem ref01_taken32_l0_ok (K : Nat) (n : Nat) : StmtNOk prog [(1, .sl), (3, .addr), (5, .addr), (6, .addr), (7, .addr), (8, .int .i64)] [] [(8, 9), (27, 66)] ((fun n x w => ref01_taken32_l0 K n x.1 x.2.1 x.2.2.1 x.2.2.2.1 x.2.2.2.2.1 x.2.2.2.2.2.1 w) n) (.block 0 (.loop (cd (bodyOf f56) [1, 1, 0, 1, 0, 0]))) :=
    mk_loopN (O := tabL []) (root := (bodyOf f56)) (π := [1, 1, 0, 1, 0, 0]) (id := 0) (Li := [(1, .sl), (3, .addr), (5, .addr), (6, .addr), (7, .addr), (8, .int .i64)]) (Lo := []) (S := (fun n x w => ref01_taken32_l0 K n x.1 x.2.1 x.2.2.1 x.2.2.2.1 x.2.2.2.2.1 x.2.2.2.2.2.1 w)) (body := cd (bodyOf f56) [1, 1, 0, 1, 0, 0]) (ref01_taken32_Eok K) (ref01_taken32_Rok K) rfl (Orc.nil _ _ _) (by kernel_rfl) (fun _ _ => by kernel_rfl) (fun _ _ _ => by kernel_rfl) n
noncomputable def ref01_taken32_l0_se (K : Nat) : SE := stmtN [(1, .sl), (3, .addr), (5, .addr), (6, .addr), (7, .addr), (8, .int .i64)] [] [(8, 9), (27, 66)] (fun x w => ref01_taken32_l0 K K x.1 x.2.1 x.2.2.1 x.2.2.2.1 x.2.2.2.2.1 x.2.2.2.2.2.1 w)
theorem ref01_taken32_l0_se_ok (K : Nat) (R : Rg) (h : subRB [(8, 9), (27, 66)] R = true) : (ref01_taken32_l0_se K).Ok prog R (.block 0 (.loop (cd (bodyOf f56) [1, 1, 0, 1, 0, 0]))) := stmtN_ok (Li := [(1, .sl), (3, .addr), (5, .addr), (6, .addr), (7, .addr), (8, .int .i64)]) (Lo := []) (S := (fun x w => ref01_taken32_l0 K K x.1 x.2.1 x.2.2.1 x.2.2.2.1 x.2.2.2.2.1 x.2.2.2.2.2.1 w)) (ref01_taken32_l0_ok K K) (subR_of h)
theorem ref01_taken32_l1_ok (K : Nat) (n : Nat) : StmtNOk prog [(3, .addr), (5, .addr), (6, .addr), (7, .addr), (9, .int .i64)] [] [(9, 14), (66, 121)] ((fun n x w => ref01_taken32_l1 K n x.1 x.2.1 x.2.2.1 x.2.2.2.1 x.2.2.2.2.1 w) n) (.block 2 (.loop (cd (bodyOf f56) [1, 1, 1, 0, 1, 0, 0]))) :=
    mk_loopN (O := tabL []) (root := (bodyOf f56)) (π := [1, 1, 1, 0, 1, 0, 0]) (id := 2) (Li := [(3, .addr), (5, .addr), (6, .addr), (7, .addr), (9, .int .i64)]) (Lo := []) (S := (fun n x w => ref01_taken32_l1 K n x.1 x.2.1 x.2.2.1 x.2.2.2.1 x.2.2.2.2.1 w)) (body := cd (bodyOf f56) [1, 1, 1, 0, 1, 0, 0]) (ref01_taken32_Eok K) (ref01_taken32_Rok K) rfl (Orc.nil _ _ _) (by kernel_rfl) (fun _ _ => by kernel_rfl) (fun _ _ _ => by kernel_rfl) n
noncomputable def ref01_taken32_l1_se (K : Nat) : SE := stmtN [(3, .addr), (5, .addr), (6, .addr), (7, .addr), (9, .int .i64)] [] [(9, 14), (66, 121)] (fun x w => ref01_taken32_l1 K K x.1 x.2.1 x.2.2.1 x.2.2.2.1 x.2.2.2.2.1 w)
theorem ref01_taken32_l1_se_ok (K : Nat) (R : Rg) (h : subRB [(9, 14), (66, 121)] R = true) : (ref01_taken32_l1_se K).Ok prog R (.block 2 (.loop (cd (bodyOf f56) [1, 1, 1, 0, 1, 0, 0]))) := stmtN_ok (Li := [(3, .addr), (5, .addr), (6, .addr), (7, .addr), (9, .int .i64)]) (Lo := []) (S := (fun x w => ref01_taken32_l1 K K x.1 x.2.1 x.2.2.1 x.2.2.2.1 x.2.2.2.2.1 w)) (ref01_taken32_l1_ok K K) (subR_of h)
theorem ref01_taken32_l2_ok (K : Nat) (n : Nat) : StmtNOk prog [(3, .addr), (5, .addr), (6, .addr), (7, .addr), (14, .int .u32), (15, .int .u32), (16, .int .u32), (17, .int .u32), (18, .int .u32), (19, .int .u32), (20, .int .u32), (21, .int .u32), (22, .int .i64)] [(14, .int .u32), (15, .int .u32), (16, .int .u32), (17, .int .u32), (18, .int .u32), (19, .int .u32), (20, .int .u32), (21, .int .u32)] [(14, 27), (137, 220)] ((fun n x w => ref01_taken32_l2 K n x.1 x.2.1 x.2.2.1 x.2.2.2.1 x.2.2.2.2.1 x.2.2.2.2.2.1 x.2.2.2.2.2.2.1 x.2.2.2.2.2.2.2.1 x.2.2.2.2.2.2.2.2.1 x.2.2.2.2.2.2.2.2.2.1 x.2.2.2.2.2.2.2.2.2.2.1 x.2.2.2.2.2.2.2.2.2.2.2.1 x.2.2.2.2.2.2.2.2.2.2.2.2.1 w) n) (.block 4 (.loop (cd (bodyOf f56) [1, 1, 1, 1, 1, 1, 0, 1, 0, 0]))) :=
    mk_loopN (O := tabL []) (root := (bodyOf f56)) (π := [1, 1, 1, 1, 1, 1, 0, 1, 0, 0]) (id := 4) (Li := [(3, .addr), (5, .addr), (6, .addr), (7, .addr), (14, .int .u32), (15, .int .u32), (16, .int .u32), (17, .int .u32), (18, .int .u32), (19, .int .u32), (20, .int .u32), (21, .int .u32), (22, .int .i64)]) (Lo := [(14, .int .u32), (15, .int .u32), (16, .int .u32), (17, .int .u32), (18, .int .u32), (19, .int .u32), (20, .int .u32), (21, .int .u32)]) (S := (fun n x w => ref01_taken32_l2 K n x.1 x.2.1 x.2.2.1 x.2.2.2.1 x.2.2.2.2.1 x.2.2.2.2.2.1 x.2.2.2.2.2.2.1 x.2.2.2.2.2.2.2.1 x.2.2.2.2.2.2.2.2.1 x.2.2.2.2.2.2.2.2.2.1 x.2.2.2.2.2.2.2.2.2.2.1 x.2.2.2.2.2.2.2.2.2.2.2.1 x.2.2.2.2.2.2.2.2.2.2.2.2.1 w)) (body := cd (bodyOf f56) [1, 1, 1, 1, 1, 1, 0, 1, 0, 0]) (ref01_taken32_Eok K) (ref01_taken32_Rok K) rfl (Orc.nil _ _ _) (by kernel_rfl) (fun _ _ => by kernel_rfl) (fun _ _ _ => by kernel_rfl) n
noncomputable def ref01_taken32_l2_se (K : Nat) : SE := stmtN [(3, .addr), (5, .addr), (6, .addr), (7, .addr), (14, .int .u32), (15, .int .u32), (16, .int .u32), (17, .int .u32), (18, .int .u32), (19, .int .u32), (20, .int .u32), (21, .int .u32), (22, .int .i64)] [(14, .int .u32), (15, .int .u32), (16, .int .u32), (17, .int .u32), (18, .int .u32), (19, .int .u32), (20, .int .u32), (21, .int .u32)] [(14, 27), (137, 220)] (fun x w => ref01_taken32_l2 K K x.1 x.2.1 x.2.2.1 x.2.2.2.1 x.2.2.2.2.1 x.2.2.2.2.2.1 x.2.2.2.2.2.2.1 x.2.2.2.2.2.2.2.1 x.2.2.2.2.2.2.2.2.1 x.2.2.2.2.2.2.2.2.2.1 x.2.2.2.2.2.2.2.2.2.2.1 x.2.2.2.2.2.2.2.2.2.2.2.1 x.2.2.2.2.2.2.2.2.2.2.2.2.1 w)
theorem ref01_taken32_l2_se_ok (K : Nat) (R : Rg) (h : subRB [(14, 27), (137, 220)] R = true) : (ref01_taken32_l2_se K).Ok prog R (.block 4 (.loop (cd (bodyOf f56) [1, 1, 1, 1, 1, 1, 0, 1, 0, 0]))) := stmtN_ok (Li := [(3, .addr), (5, .addr), (6, .addr), (7, .addr), (14, .int .u32), (15, .int .u32), (16, .int .u32), (17, .int .u32), (18, .int .u32), (19, .int .u32), (20, .int .u32), (21, .int .u32), (22, .int .i64)]) (Lo := [(14, .int .u32), (15, .int .u32), (16, .int .u32), (17, .int .u32), (18, .int .u32), (19, .int .u32), (20, .int .u32), (21, .int .u32)]) (S := (fun x w => ref01_taken32_l2 K K x.1 x.2.1 x.2.2.1 x.2.2.2.1 x.2.2.2.2.1 x.2.2.2.2.2.1 x.2.2.2.2.2.2.1 x.2.2.2.2.2.2.2.1 x.2.2.2.2.2.2.2.2.1 x.2.2.2.2.2.2.2.2.2.1 x.2.2.2.2.2.2.2.2.2.2.1 x.2.2.2.2.2.2.2.2.2.2.2.1 x.2.2.2.2.2.2.2.2.2.2.2.2.1 w)) (ref01_taken32_l2_ok K K) (subR_of h)
theorem ref01_taken32_facts : FunFacts prog 56 f56 (bodyOf f56) [(0, .agg), (1, .sl), (2, .agg)] [(0, 253)] := ⟨func56, by kernel_rfl, by kernel_rfl, by kernel_rfl, by kernel_rfl, by kernel_rfl⟩
theorem ref01_taken32_calls (K : Nat) (x : TT [(0, .agg), (1, .sl), (2, .agg)]) (w : World) (y : TR [.agg]) (w2 : World) (h : ref01_taken32 K x.1 x.2.1 x.2.2.1 w = some (y, w2)) : Calls prog 56 (encA [(0, .agg), (1, .sl), (2, .agg)] x).toArray w (fun e w3 => e = .returned (resV (encR [.agg] y)) ∧ w3 = w2) :=
    mk_fun (O := tabL [([1, 1, 0, 1], ref01_taken32_l0_se K), ([1, 1, 1, 0, 1], ref01_taken32_l1_se K), ([1, 1, 1, 1, 1, 1, 0, 1], ref01_taken32_l2_se K)]) (Lp := [(0, .agg), (1, .sl), (2, .agg)]) (Rt := [.agg]) (S := (fun x w => ref01_taken32 K x.1 x.2.1 x.2.2.1 w)) (ref01_taken32_Eok K) (ref01_taken32_Rok K) rfl ref01_taken32_facts (Orc.cons (by kernel_rfl) (ref01_taken32_l0_se_ok K [(0, 253)] (by kernel_rfl)) (Orc.cons (by kernel_rfl) (ref01_taken32_l1_se_ok K [(0, 253)] (by kernel_rfl)) (Orc.cons (by kernel_rfl) (ref01_taken32_l2_se_ok K [(0, 253)] (by kernel_rfl)) (Orc.nil _ _ _)))) (fun _ _ => by kernel_rfl) x w y w2 h
noncomputable def ref01_taken32_ce (K : Nat) : CE := funE [(0, .agg), (1, .sl), (2, .agg)] [.agg] (fun x w => ref01_taken32 K x.1 x.2.1 x.2.2.1 w)
theorem ref01_taken32_ok (K : Nat) : (ref01_taken32_ce K).Ok prog 56 := funE_ok (Rt := [.agg]) (S := (fun x w => ref01_taken32 K x.1 x.2.1 x.2.2.1 w)) ref01_taken32_facts fun x w y w2 h => ref01_taken32_calls K x w y w2 h

noncomputable def ref01_narrow_E (K : Nat) : List (Nat × CE) := [(56, ref01_taken32_ce K)]
theorem ref01_narrow_Eok (K : Nat) : Env.Ok prog (tab (ref01_narrow_E K)) := (Env.cons (ref01_taken32_ok K) (Env.nil _))
noncomputable def ref01_narrow_R (K : Nat) : List (Nat × RE) := []
theorem ref01_narrow_Rok (K : Nat) : REnv.Ok prog (tab (ref01_narrow_R K)) := (REnv.nil _)
noncomputable def ref01_narrow_l0_b (K : Nat) (rec : Sl → Addr → Addr → Addr → Int → World → Option ((Unit) × World)) (p1 : Sl) (h2 : Addr) (a4 : Addr) (k5 : Addr) (t6 : Int) (w : World) : Option ((Unit) × World) :=
  if (decide (t6 < 64)) = true then (if (0 : Int) ≤ t6 ∧ t6 < ((80 : Nat) : Int) then ((ldI .u64 ((⟨2, 0, none⟩ : Addr).add ((Int.toNat t6) * 1)) w).bind fun v_7 =>
  if (0 : Int) ≤ t6 ∧ t6 < ((64 : Nat) : Int) then ((stC (k5.add ((Int.toNat t6) * 1)) (.int .u32 (IntKind.u32.wrap (Int.fdiv v_7 (2 ^ 32)))) w).bind fun w_8 =>
  rec p1 h2 a4 k5 (IntKind.i64.wrap (t6 + 1)) w_8) else none) else none) else (some ((), w))
noncomputable def ref01_narrow_l0 (K : Nat) (n : Nat) : Sl → Addr → Addr → Addr → Int → World → Option ((Unit) × World) := iter (fun _ _ _ _ _ _ => none) (ref01_narrow_l0_b K) n
noncomputable def ref01_narrow_l1_b (K : Nat) (rec : Sl → Addr → Addr → Addr → Addr → Int → World → Option ((Unit) × World)) (p1 : Sl) (h2 : Addr) (a4 : Addr) (k5 : Addr) (v7 : Addr) (i8 : Int) (w : World) : Option ((Unit) × World) :=
  if (decide (i8 < 8)) = true then (if (0 : Int) ≤ i8 ∧ i8 < ((8 : Nat) : Int) then ((ldI .u64 (h2.add ((Int.toNat i8) * 1)) w).bind fun v_13 =>
  if (0 : Int) ≤ i8 ∧ i8 < ((8 : Nat) : Int) then ((stC (v7.add ((Int.toNat i8) * 1)) (.int .u32 (IntKind.u32.wrap v_13)) w).bind fun w_14 =>
  rec p1 h2 a4 k5 v7 (IntKind.i64.wrap (i8 + 1)) w_14) else none) else none) else (some ((), w))
noncomputable def ref01_narrow_l1 (K : Nat) (n : Nat) : Sl → Addr → Addr → Addr → Addr → Int → World → Option ((Unit) × World) := iter (fun _ _ _ _ _ _ _ => none) (ref01_narrow_l1_b K) n
noncomputable def ref01_narrow_l2_b (K : Nat) (rec : Sl → Addr → Addr → Addr → Addr → Int → World → Option ((Unit) × World)) (p1 : Sl) (h2 : Addr) (a4 : Addr) (k5 : Addr) (v7 : Addr) (i9 : Int) (w : World) : Option ((Unit) × World) :=
  if (decide (i9 < ((p1.len : Nat) : Int))) = true then (if (0 : Int) ≤ (IntKind.i64.wrap (i9 + 64)) ∧ (IntKind.i64.wrap (i9 + 64)) ≤ ((p1.cap : Nat) : Int) then (if (0 : Int) ≤ i9 ∧ i9 ≤ (((Int.toNat ((IntKind.i64.wrap (i9 + 64)))) : Nat) : Int) then ((ldA 8 v7 w.drew).bind fun v_17 =>
  (ldA 64 k5 w.drew).bind fun v_18 =>
  bnd (ref01_taken32 K v_17 ⟨(sla p1.a (Int.toNat (i9)) p1.cap 1), ((Int.toNat ((IntKind.i64.wrap (i9 + 64)))) - (Int.toNat (i9))), (p1.cap - (Int.toNat (i9)))⟩ v_18 w.drew) fun r_19 w_20 =>
  if (r_19.1).size = 8 then ((stA v7 r_19.1 w_20).bind fun w_21 =>
  rec p1 h2 a4 k5 v7 (IntKind.i64.wrap (i9 + 64)) w_21) else none) else none) else none) else (some ((), w))
noncomputable def ref01_narrow_l2 (K : Nat) (n : Nat) : Sl → Addr → Addr → Addr → Addr → Int → World → Option ((Unit) × World) := iter (fun _ _ _ _ _ _ _ => none) (ref01_narrow_l2_b K) n
noncomputable def ref01_narrow_l3_b (K : Nat) (rec : Addr → Addr → Addr → Int → World → Option ((Unit) × World)) (h2 : Addr) (a4 : Addr) (v7 : Addr) (i10 : Int) (w : World) : Option ((Unit) × World) :=
  if (decide (i10 < 8)) = true then (if (0 : Int) ≤ i10 ∧ i10 < ((8 : Nat) : Int) then ((ldI .u32 (v7.add ((Int.toNat i10) * 1)) w).bind fun v_24 =>
  if (0 : Int) ≤ i10 ∧ i10 < ((8 : Nat) : Int) then ((stC (h2.add ((Int.toNat i10) * 1)) (.int .u64 (IntKind.u64.wrap v_24)) w).bind fun w_25 =>
  rec h2 a4 v7 (IntKind.i64.wrap (i10 + 1)) w_25) else none) else none) else (some ((), w))
noncomputable def ref01_narrow_l3 (K : Nat) (n : Nat) : Addr → Addr → Addr → Int → World → Option ((Unit) × World) := iter (fun _ _ _ _ _ => none) (ref01_narrow_l3_b K) n
/-- coffer/cofferref01.narrow -/
noncomputable def ref01_narrow (K : Nat) (h0 : Array Value) (p1 : Sl) (w : World) : Option (((Array Value) × Unit) × World) :=
  bnd (newB h0 81 w) fun p_1 w_2 =>
  bnd (newB z81 81 w_2) fun p_3 w_4 =>
  bnd (newB z100 100 w_4) fun k_5 w_6 =>
  bnd (ref01_narrow_l0 K K p1 p_1 p_3 k_5 0 w_6) fun y_9 w_10 =>
  bnd (newB z102 102 w_10) fun v_11 w_12 =>
  bnd (ref01_narrow_l1 K K p1 p_1 p_3 k_5 v_11 0 w_12) fun y_15 w_16 =>
  bnd (ref01_narrow_l2 K K p1 p_1 p_3 k_5 v_11 0 w_16) fun y_22 w_23 =>
  bnd (ref01_narrow_l3 K K p_1 p_3 v_11 0 w_23) fun y_26 w_27 =>
  (ldA 8 p_1 w_27).bind fun v_28 =>
  if (v_28).size = 8 then ((stA p_3 v_28 w_27).bind fun w_29 =>
  (ldA 8 p_3 w_29).bind fun res_30 =>
  some ((res_30, ()), w_29)) else none
theorem ref01_narrow_l0_ok (K : Nat) (n : Nat) : StmtNOk prog [(1, .sl), (2, .addr), (4, .addr), (5, .addr), (6, .int .i64)] [] [(6, 7), (11, 22)] ((fun n x w => ref01_narrow_l0 K n x.1 x.2.1 x.2.2.1 x.2.2.2.1 x.2.2.2.2.1 w) n) (.block 0 (.loop (cd (bodyOf f46) [1, 1, 0, 1, 0, 0]))) :=
    mk_loopN (O := tabL []) (root := (bodyOf f46)) (π := [1, 1, 0, 1, 0, 0]) (id := 0) (Li := [(1, .sl), (2, .addr), (4, .addr), (5, .addr), (6, .int .i64)]) (Lo := []) (S := (fun n x w => ref01_narrow_l0 K n x.1 x.2.1 x.2.2.1 x.2.2.2.1 x.2.2.2.2.1 w)) (body := cd (bodyOf f46) [1, 1, 0, 1, 0, 0]) (ref01_narrow_Eok K) (ref01_narrow_Rok K) rfl (Orc.nil _ _ _) (by kernel_rfl) (fun _ _ => by kernel_rfl) (fun _ _ _ => by kernel_rfl) n
noncomputable def ref01_narrow_l0_se (K : Nat) : SE := stmtN [(1, .sl), (2, .addr), (4, .addr), (5, .addr), (6, .int .i64)] [] [(6, 7), (11, 22)] (fun x w => ref01_narrow_l0 K K x.1 x.2.1 x.2.2.1 x.2.2.2.1 x.2.2.2.2.1 w)
theorem ref01_narrow_l0_se_ok (K : Nat) (R : Rg) (h : subRB [(6, 7), (11, 22)] R = true) : (ref01_narrow_l0_se K).Ok prog R (.block 0 (.loop (cd (bodyOf f46) [1, 1, 0, 1, 0, 0]))) := stmtN_ok (Li := [(1, .sl), (2, .addr), (4, .addr), (5, .addr), (6, .int .i64)]) (Lo := []) (S := (fun x w => ref01_narrow_l0 K K x.1 x.2.1 x.2.2.1 x.2.2.2.1 x.2.2.2.2.1 w)) (ref01_narrow_l0_ok K K) (subR_of h)
theorem ref01_narrow_l1_ok (K : Nat) (n : Nat) : StmtNOk prog [(1, .sl), (2, .addr), (4, .addr), (5, .addr), (7, .addr), (8, .int .i64)] [] [(8, 9), (22, 32)] ((fun n x w => ref01_narrow_l1 K n x.1 x.2.1 x.2.2.1 x.2.2.2.1 x.2.2.2.2.1 x.2.2.2.2.2.1 w) n) (.block 2 (.loop (cd (bodyOf f46) [1, 1, 1, 1, 0, 1, 0, 0]))) :=
    mk_loopN (O := tabL []) (root := (bodyOf f46)) (π := [1, 1, 1, 1, 0, 1, 0, 0]) (id := 2) (Li := [(1, .sl), (2, .addr), (4, .addr), (5, .addr), (7, .addr), (8, .int .i64)]) (Lo := []) (S := (fun n x w => ref01_narrow_l1 K n x.1 x.2.1 x.2.2.1 x.2.2.2.1 x.2.2.2.2.1 x.2.2.2.2.2.1 w)) (body := cd (bodyOf f46) [1, 1, 1, 1, 0, 1, 0, 0]) (ref01_narrow_Eok K) (ref01_narrow_Rok K) rfl (Orc.nil _ _ _) (by kernel_rfl) (fun _ _ => by kernel_rfl) (fun _ _ _ => by kernel_rfl) n
noncomputable def ref01_narrow_l1_se (K : Nat) : SE := stmtN [(1, .sl), (2, .addr), (4, .addr), (5, .addr), (7, .addr), (8, .int .i64)] [] [(8, 9), (22, 32)] (fun x w => ref01_narrow_l1 K K x.1 x.2.1 x.2.2.1 x.2.2.2.1 x.2.2.2.2.1 x.2.2.2.2.2.1 w)
theorem ref01_narrow_l1_se_ok (K : Nat) (R : Rg) (h : subRB [(8, 9), (22, 32)] R = true) : (ref01_narrow_l1_se K).Ok prog R (.block 2 (.loop (cd (bodyOf f46) [1, 1, 1, 1, 0, 1, 0, 0]))) := stmtN_ok (Li := [(1, .sl), (2, .addr), (4, .addr), (5, .addr), (7, .addr), (8, .int .i64)]) (Lo := []) (S := (fun x w => ref01_narrow_l1 K K x.1 x.2.1 x.2.2.1 x.2.2.2.1 x.2.2.2.2.1 x.2.2.2.2.2.1 w)) (ref01_narrow_l1_ok K K) (subR_of h)
theorem ref01_narrow_l2_ok (K : Nat) (n : Nat) : StmtNOk prog [(1, .sl), (2, .addr), (4, .addr), (5, .addr), (7, .addr), (9, .int .i64)] [] [(9, 10), (32, 46)] ((fun n x w => ref01_narrow_l2 K n x.1 x.2.1 x.2.2.1 x.2.2.2.1 x.2.2.2.2.1 x.2.2.2.2.2.1 w) n) (.block 4 (.loop (cd (bodyOf f46) [1, 1, 1, 1, 1, 0, 1, 0, 0]))) :=
    mk_loopN (O := tabL []) (root := (bodyOf f46)) (π := [1, 1, 1, 1, 1, 0, 1, 0, 0]) (id := 4) (Li := [(1, .sl), (2, .addr), (4, .addr), (5, .addr), (7, .addr), (9, .int .i64)]) (Lo := []) (S := (fun n x w => ref01_narrow_l2 K n x.1 x.2.1 x.2.2.1 x.2.2.2.1 x.2.2.2.2.1 x.2.2.2.2.2.1 w)) (body := cd (bodyOf f46) [1, 1, 1, 1, 1, 0, 1, 0, 0]) (ref01_narrow_Eok K) (ref01_narrow_Rok K) rfl (Orc.nil _ _ _) (by kernel_rfl) (fun _ _ => by kernel_rfl) (fun _ _ _ => by kernel_rfl) n
noncomputable def ref01_narrow_l2_se (K : Nat) : SE := stmtN [(1, .sl), (2, .addr), (4, .addr), (5, .addr), (7, .addr), (9, .int .i64)] [] [(9, 10), (32, 46)] (fun x w => ref01_narrow_l2 K K x.1 x.2.1 x.2.2.1 x.2.2.2.1 x.2.2.2.2.1 x.2.2.2.2.2.1 w)
theorem ref01_narrow_l2_se_ok (K : Nat) (R : Rg) (h : subRB [(9, 10), (32, 46)] R = true) : (ref01_narrow_l2_se K).Ok prog R (.block 4 (.loop (cd (bodyOf f46) [1, 1, 1, 1, 1, 0, 1, 0, 0]))) := stmtN_ok (Li := [(1, .sl), (2, .addr), (4, .addr), (5, .addr), (7, .addr), (9, .int .i64)]) (Lo := []) (S := (fun x w => ref01_narrow_l2 K K x.1 x.2.1 x.2.2.1 x.2.2.2.1 x.2.2.2.2.1 x.2.2.2.2.2.1 w)) (ref01_narrow_l2_ok K K) (subR_of h)
theorem ref01_narrow_l3_ok (K : Nat) (n : Nat) : StmtNOk prog [(2, .addr), (4, .addr), (7, .addr), (10, .int .i64)] [] [(10, 11), (46, 56)] ((fun n x w => ref01_narrow_l3 K n x.1 x.2.1 x.2.2.1 x.2.2.2.1 w) n) (.block 6 (.loop (cd (bodyOf f46) [1, 1, 1, 1, 1, 1, 0, 1, 0, 0]))) :=
    mk_loopN (O := tabL []) (root := (bodyOf f46)) (π := [1, 1, 1, 1, 1, 1, 0, 1, 0, 0]) (id := 6) (Li := [(2, .addr), (4, .addr), (7, .addr), (10, .int .i64)]) (Lo := []) (S := (fun n x w => ref01_narrow_l3 K n x.1 x.2.1 x.2.2.1 x.2.2.2.1 w)) (body := cd (bodyOf f46) [1, 1, 1, 1, 1, 1, 0, 1, 0, 0]) (ref01_narrow_Eok K) (ref01_narrow_Rok K) rfl (Orc.nil _ _ _) (by kernel_rfl) (fun _ _ => by kernel_rfl) (fun _ _ _ => by kernel_rfl) n
noncomputable def ref01_narrow_l3_se (K : Nat) : SE := stmtN [(2, .addr), (4, .addr), (7, .addr), (10, .int .i64)] [] [(10, 11), (46, 56)] (fun x w => ref01_narrow_l3 K K x.1 x.2.1 x.2.2.1 x.2.2.2.1 w)
theorem ref01_narrow_l3_se_ok (K : Nat) (R : Rg) (h : subRB [(10, 11), (46, 56)] R = true) : (ref01_narrow_l3_se K).Ok prog R (.block 6 (.loop (cd (bodyOf f46) [1, 1, 1, 1, 1, 1, 0, 1, 0, 0]))) := stmtN_ok (Li := [(2, .addr), (4, .addr), (7, .addr), (10, .int .i64)]) (Lo := []) (S := (fun x w => ref01_narrow_l3 K K x.1 x.2.1 x.2.2.1 x.2.2.2.1 w)) (ref01_narrow_l3_ok K K) (subR_of h)
theorem ref01_narrow_facts : FunFacts prog 46 f46 (bodyOf f46) [(0, .agg), (1, .sl)] [(0, 57)] := ⟨func46, by kernel_rfl, by kernel_rfl, by kernel_rfl, by kernel_rfl, by kernel_rfl⟩
theorem ref01_narrow_calls (K : Nat) (x : TT [(0, .agg), (1, .sl)]) (w : World) (y : TR [.agg]) (w2 : World) (h : ref01_narrow K x.1 x.2.1 w = some (y, w2)) : Calls prog 46 (encA [(0, .agg), (1, .sl)] x).toArray w (fun e w3 => e = .returned (resV (encR [.agg] y)) ∧ w3 = w2) :=
    mk_fun (O := tabL [([1, 1, 0, 1], ref01_narrow_l0_se K), ([1, 1, 1, 1, 0, 1], ref01_narrow_l1_se K), ([1, 1, 1, 1, 1, 0, 1], ref01_narrow_l2_se K), ([1, 1, 1, 1, 1, 1, 0, 1], ref01_narrow_l3_se K)]) (Lp := [(0, .agg), (1, .sl)]) (Rt := [.agg]) (S := (fun x w => ref01_narrow K x.1 x.2.1 w)) (ref01_narrow_Eok K) (ref01_narrow_Rok K) rfl ref01_narrow_facts (Orc.cons (by kernel_rfl) (ref01_narrow_l0_se_ok K [(0, 57)] (by kernel_rfl)) (Orc.cons (by kernel_rfl) (ref01_narrow_l1_se_ok K [(0, 57)] (by kernel_rfl)) (Orc.cons (by kernel_rfl) (ref01_narrow_l2_se_ok K [(0, 57)] (by kernel_rfl)) (Orc.cons (by kernel_rfl) (ref01_narrow_l3_se_ok K [(0, 57)] (by kernel_rfl)) (Orc.nil _ _ _))))) (fun _ _ => by kernel_rfl) x w y w2 h
noncomputable def ref01_narrow_ce (K : Nat) : CE := funE [(0, .agg), (1, .sl)] [.agg] (fun x w => ref01_narrow K x.1 x.2.1 w)
theorem ref01_narrow_ok (K : Nat) : (ref01_narrow_ce K).Ok prog 46 := funE_ok (Rt := [.agg]) (S := (fun x w => ref01_narrow K x.1 x.2.1 w)) ref01_narrow_facts fun x w y w2 h => ref01_narrow_calls K x w y w2 h

end Go.Sh
