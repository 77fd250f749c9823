/- Texts of this claim, put together: Sh4 -/
import Derived.Test.YtcfolhdacolbjaaDoorAllShdiilgh
/- What functions of the program do, as Lean functions; that the machine does just that. Printed by shal.py, a program of this claim's writer. -/
set_option maxRecDepth 100000
set_option linter.unusedVariables false
namespace Go.Sh
open Go.Fw Go.Proofs.Tryd

noncomputable def digest_big_E (K : Nat) : List (Nat × CE) := []
theorem digest_big_Eok (K : Nat) : Env.Ok prog (tab (digest_big_E K)) := (Env.nil _)
noncomputable def digest_big_R (K : Nat) : List (Nat × RE) := []
theorem digest_big_Rok (K : Nat) : REnv.Ok prog (tab (digest_big_R K)) := (REnv.nil _)
noncomputable def digest_big_l0_b (K : Nat) (rec : Sl → Int → Int → World → Option ((Sl × Unit) × World)) (out0 : Sl) (x1 : Int) (i7 : Int) (w : World) : Option ((Sl × Unit) × World) :=
  if (decide (i7 ≥ 0)) = true then (if (0 : Int) ≤ (IntKind.i64.wrap (8 * i7)) then (bnd (bldS prog 22 1 #[(0, (.int .u8 (IntKind.u8.wrap (Int.fdiv x1 (2 ^ (min (Int.toNat (IntKind.i64.wrap (8 * i7))) IntKind.u64.bits))))))] w) fun s_1 w_2 =>
  bnd (apd prog 22 22 (.slice out0.a out0.len out0.cap) (.slice s_1.a s_1.len s_1.cap) w_2) fun s_3 w_4 =>
  rec s_3 x1 (IntKind.i64.wrap (i7 - 1)) w_4) else none) else (some ((out0, ()), w))
noncomputable def digest_big_l0 (K : Nat) (n : Nat) : Sl → Int → Int → World → Option ((Sl × Unit) × World) := iter (fun _ _ _ _ => none) (digest_big_l0_b K) n
/-- coffer/digest.big -/
noncomputable def digest_big (K : Nat) (out0 : Sl) (x1 : Int) (n2 : Int) (w : World) : Option ((Sl × Unit) × World) :=
  bnd (digest_big_l0 K K out0 x1 (IntKind.i64.wrap (n2 - 1)) w) fun y_5 w_6 =>
  some ((y_5.1, ()), w_6)
theorem digest_big_l0_ok (K : Nat) (n : Nat) : StmtNOk prog [(0, .sl), (1, .int .u64), (7, .int .i64)] [(0, .sl)] [(0, 1), (7, 8), (10, 22)] ((fun n x w => digest_big_l0 K n x.1 x.2.1 x.2.2.1 w) n) (.block 0 (.loop (cd (bodyOf f56) [1, 0, 1, 0, 0]))) :=
    mk_loopN (O := tabL []) (root := (bodyOf f56)) (π := [1, 0, 1, 0, 0]) (id := 0) (Li := [(0, .sl), (1, .int .u64), (7, .int .i64)]) (Lo := [(0, .sl)]) (S := (fun n x w => digest_big_l0 K n x.1 x.2.1 x.2.2.1 w)) (body := cd (bodyOf f56) [1, 0, 1, 0, 0]) (digest_big_Eok K) (digest_big_Rok K) rfl (Orc.nil _ _ _) (by kernel_rfl) (fun _ _ => by kernel_rfl) (fun _ _ _ => by kernel_rfl) n
noncomputable def digest_big_l0_se (K : Nat) : SE := stmtN [(0, .sl), (1, .int .u64), (7, .int .i64)] [(0, .sl)] [(0, 1), (7, 8), (10, 22)] (fun x w => digest_big_l0 K K x.1 x.2.1 x.2.2.1 w)
theorem digest_big_l0_se_ok (K : Nat) (R : Rg) (h : subRB [(0, 1), (7, 8), (10, 22)] R = true) : (digest_big_l0_se K).Ok prog R (.block 0 (.loop (cd (bodyOf f56) [1, 0, 1, 0, 0]))) := stmtN_ok (Li := [(0, .sl), (1, .int .u64), (7, .int .i64)]) (Lo := [(0, .sl)]) (S := (fun x w => digest_big_l0 K K x.1 x.2.1 x.2.2.1 w)) (digest_big_l0_ok K K) (subR_of h)
theorem digest_big_facts : FunFacts prog 56 f56 (bodyOf f56) [(0, .sl), (1, .int .u64), (2, .int .i64)] [(0, 23)] := ⟨func56, by kernel_rfl, by kernel_rfl, by kernel_rfl, by kernel_rfl, by kernel_rfl⟩
theorem digest_big_calls (K : Nat) (x : TT [(0, .sl), (1, .int .u64), (2, .int .i64)]) (w : World) (y : TR [.sl]) (w2 : World) (h : digest_big K x.1 x.2.1 x.2.2.1 w = some (y, w2)) : Calls prog 56 (encA [(0, .sl), (1, .int .u64), (2, .int .i64)] x).toArray w (fun e w3 => e = .returned (resV (encR [.sl] y)) ∧ w3 = w2) :=
    mk_fun (O := tabL [([1, 0, 1], digest_big_l0_se K)]) (Lp := [(0, .sl), (1, .int .u64), (2, .int .i64)]) (Rt := [.sl]) (S := (fun x w => digest_big K x.1 x.2.1 x.2.2.1 w)) (digest_big_Eok K) (digest_big_Rok K) rfl digest_big_facts (Orc.cons (by kernel_rfl) (digest_big_l0_se_ok K [(0, 23)] (by kernel_rfl)) (Orc.nil _ _ _)) (fun _ _ => by kernel_rfl) x w y w2 h
noncomputable def digest_big_ce (K : Nat) : CE := funE [(0, .sl), (1, .int .u64), (2, .int .i64)] [.sl] (fun x w => digest_big K x.1 x.2.1 x.2.2.1 w)
theorem digest_big_ok (K : Nat) : (digest_big_ce K).Ok prog 56 := funE_ok (Rt := [.sl]) (S := (fun x w => digest_big K x.1 x.2.1 x.2.2.1 w)) digest_big_facts fun x w y w2 h => digest_big_calls K x w y w2 h

noncomputable def digest_state_end_E (K : Nat) : List (Nat × CE) := [(52, digest_state_take_ce K), (56, digest_big_ce K)]
theorem digest_state_end_Eok (K : Nat) : Env.Ok prog (tab (digest_state_end_E K)) := (Env.cons (digest_state_take_ok K) (Env.cons (digest_big_ok K) (Env.nil _)))
noncomputable def digest_state_end_R (K : Nat) : List (Nat × RE) := []
theorem digest_state_end_Rok (K : Nat) : REnv.Ok prog (tab (digest_state_end_R K)) := (REnv.nil _)
noncomputable def digest_state_end_l0_b (K : Nat) (rec : Addr → Int → Addr → Int → World → Option ((Int × Unit) × World)) (s1 : Addr) (bits3 : Int) (pad4 : Addr) (n5 : Int) (w : World) : Option ((Int × Unit) × World) :=
  (ldI .u64 (s1.add 5) w.drew).bind fun v_7 =>
  (ldI .i64 ((s1.add 0).add 1) w.drew).bind fun v_8 =>
  if (IntKind.u64.wrap v_8) ≠ 0 then ((ldI .i64 ((s1.add 0).add 2) w.drew).bind fun v_9 =>
  (ldI .i64 ((s1.add 0).add 1) w.drew).bind fun v_10 =>
  if v_10 ≠ 0 then (if ((Int.tmod (IntKind.i64.wrap ((IntKind.i64.wrap ((IntKind.i64.wrap (Int.tmod v_7 (IntKind.u64.wrap v_8))) + n5)) + (IntKind.i64.wrap (2 * v_9)))) v_10) != 0) = true then (rec s1 bits3 pad4 (IntKind.i64.wrap (n5 + 1)) w.drew) else (some ((n5, ()), w.drew))) else none) else none
noncomputable def digest_state_end_l0 (K : Nat) (n : Nat) : Addr → Int → Addr → Int → World → Option ((Int × Unit) × World) := iter (fun _ _ _ _ _ => none) (digest_state_end_l0_b K) n
noncomputable def digest_state_end_l1_b (K : Nat) (rec : Addr → Int → Addr → Int → Int → World → Option ((Unit) × World)) (s1 : Addr) (bits3 : Int) (pad4 : Addr) (n5 : Int) (a42 : Int) (w : World) : Option ((Unit) × World) :=
  if (decide (a42 < 8)) = true then (if (0 : Int) ≤ (IntKind.i64.wrap (8 * a42)) then (if (0 : Int) ≤ (IntKind.i64.wrap ((IntKind.i64.wrap (n5 - 1)) - a42)) ∧ (IntKind.i64.wrap ((IntKind.i64.wrap (n5 - 1)) - a42)) < ((256 : Nat) : Int) then ((stC (pad4.add ((Int.toNat (IntKind.i64.wrap ((IntKind.i64.wrap (n5 - 1)) - a42))) * 1)) (.int .u8 (IntKind.u8.wrap (Int.fdiv bits3 (2 ^ (min (Int.toNat (IntKind.i64.wrap (8 * a42))) IntKind.u64.bits))))) w).bind fun w_14 =>
  rec s1 bits3 pad4 n5 (IntKind.i64.wrap (a42 + 1)) w_14) else none) else none) else (some ((), w))
noncomputable def digest_state_end_l1 (K : Nat) (n : Nat) : Addr → Int → Addr → Int → Int → World → Option ((Unit) × World) := iter (fun _ _ _ _ _ _ => none) (digest_state_end_l1_b K) n
noncomputable def digest_state_end_l2_b (K : Nat) (rec : Addr → Sl → Array Value → Int → World → Option ((Sl × Unit) × World)) (s1 : Addr) (out7 : Sl) (a61 : Array Value) (a62 : Int) (w : World) : Option ((Sl × Unit) × World) :=
  if (decide (a62 < 8)) = true then (if (0 : Int) ≤ a62 ∧ a62 < ((8 : Nat) : Int) then ((a61[((Int.toNat a62) * 1)]?).bind fun v_22 =>
  (asI .u64 v_22).bind fun v_23 =>
  (ldI .i64 ((s1.add 0).add 2) w).bind fun v_24 =>
  bnd (digest_big K out7 v_23 v_24 w) fun r_25 w_26 =>
  rec s1 r_25.1 a61 (IntKind.i64.wrap (a62 + 1)) w_26) else none) else (some ((out7, ()), w))
noncomputable def digest_state_end_l2 (K : Nat) (n : Nat) : Addr → Sl → Array Value → Int → World → Option ((Sl × Unit) × World) := iter (fun _ _ _ _ _ => none) (digest_state_end_l2_b K) n
/-- (coffer/digest.state).end -/
noncomputable def digest_state_end (K : Nat) (s0 : Array Value) (w : World) : Option ((Sl × Unit) × World) :=
  bnd (newB s0 87 w) fun p_1 w_2 =>
  (ldI .u64 (p_1.add 5) w_2).bind fun v_3 =>
  bnd (newB z96 96 w_2) fun pad_4 w_5 =>
  (stC (pad_4.add (0 * 1)) (.int .u8 128) w_5).bind fun w_6 =>
  bnd (digest_state_end_l0 K K p_1 (IntKind.u64.wrap (v_3 * 8)) pad_4 1 w_6) fun y_11 w_12 =>
  (ldI .i64 ((p_1.add 0).add 2) w_12).bind fun v_13 =>
  bnd (digest_state_end_l1 K K p_1 (IntKind.u64.wrap (v_3 * 8)) pad_4 (IntKind.i64.wrap (y_11.1 + (IntKind.i64.wrap (2 * v_13)))) 0 w_12) fun y_15 w_16 =>
  if (0 : Int) ≤ (IntKind.i64.wrap (y_11.1 + (IntKind.i64.wrap (2 * v_13)))) ∧ (IntKind.i64.wrap (y_11.1 + (IntKind.i64.wrap (2 * v_13)))) ≤ ((256 : Nat) : Int) then (bnd (digest_state_take K (some p_1) ⟨(sla (some pad_4) 0 256 1), ((Int.toNat ((IntKind.i64.wrap (y_11.1 + (IntKind.i64.wrap (2 * v_13)))))) - 0), (256 - 0)⟩ w_16) fun r_17 w_18 =>
  bnd (mkS prog 22 (.int .i64 0) (.int .i64 64) w_18) fun s_19 w_20 =>
  (ldA 8 (p_1.add 6) w_20).bind fun v_21 =>
  bnd (digest_state_end_l2 K K p_1 s_19 v_21 0 w_20) fun y_27 w_28 =>
  (ldI .i64 ((p_1.add 0).add 0) w_28).bind fun v_29 =>
  (ldI .i64 ((p_1.add 0).add 0) w_28).bind fun v_30 =>
  if (0 : Int) ≤ v_30 ∧ v_30 ≤ ((y_27.1.cap : Nat) : Int) then (if (0 : Int) ≤ v_29 ∧ v_29 ≤ (((Int.toNat (v_30)) : Nat) : Int) then (some ((⟨(sla y_27.1.a 0 (Int.toNat (v_30)) 1), ((Int.toNat (v_29)) - 0), ((Int.toNat (v_30)) - 0)⟩, ()), w_28)) else none) else none) else none
theorem digest_state_end_l0_ok (K : Nat) (n : Nat) : StmtNOk prog [(1, .addr), (3, .int .u64), (4, .addr), (5, .int .i64)] [(5, .int .i64)] [(5, 6), (14, 36)] ((fun n x w => digest_state_end_l0 K n x.1 x.2.1 x.2.2.1 x.2.2.2.1 w) n) (.block 0 (.loop (cd (bodyOf f53) [1, 1, 1, 1, 1, 0, 0, 0]))) :=
    mk_loopN (O := tabL []) (root := (bodyOf f53)) (π := [1, 1, 1, 1, 1, 0, 0, 0]) (id := 0) (Li := [(1, .addr), (3, .int .u64), (4, .addr), (5, .int .i64)]) (Lo := [(5, .int .i64)]) (S := (fun n x w => digest_state_end_l0 K n x.1 x.2.1 x.2.2.1 x.2.2.2.1 w)) (body := cd (bodyOf f53) [1, 1, 1, 1, 1, 0, 0, 0]) (digest_state_end_Eok K) (digest_state_end_Rok K) rfl (Orc.nil _ _ _) (by kernel_rfl) (fun _ _ => by kernel_rfl) (fun _ _ _ => by kernel_rfl) n
noncomputable def digest_state_end_l0_se (K : Nat) : SE := stmtN [(1, .addr), (3, .int .u64), (4, .addr), (5, .int .i64)] [(5, .int .i64)] [(5, 6), (14, 36)] (fun x w => digest_state_end_l0 K K x.1 x.2.1 x.2.2.1 x.2.2.2.1 w)
theorem digest_state_end_l0_se_ok (K : Nat) (R : Rg) (h : subRB [(5, 6), (14, 36)] R = true) : (digest_state_end_l0_se K).Ok prog R (.block 0 (.loop (cd (bodyOf f53) [1, 1, 1, 1, 1, 0, 0, 0]))) := stmtN_ok (Li := [(1, .addr), (3, .int .u64), (4, .addr), (5, .int .i64)]) (Lo := [(5, .int .i64)]) (S := (fun x w => digest_state_end_l0 K K x.1 x.2.1 x.2.2.1 x.2.2.2.1 w)) (digest_state_end_l0_ok K K) (subR_of h)
theorem digest_state_end_l1_ok (K : Nat) (n : Nat) : StmtNOk prog [(1, .addr), (3, .int .u64), (4, .addr), (5, .int .i64), (42, .int .i64)] [] [(6, 7), (42, 56)] ((fun n x w => digest_state_end_l1 K n x.1 x.2.1 x.2.2.1 x.2.2.2.1 x.2.2.2.2.1 w) n) (.block 2 (.loop (cd (bodyOf f53) [1, 1, 1, 1, 1, 1, 1, 0, 1, 0, 0]))) :=
    mk_loopN (O := tabL []) (root := (bodyOf f53)) (π := [1, 1, 1, 1, 1, 1, 1, 0, 1, 0, 0]) (id := 2) (Li := [(1, .addr), (3, .int .u64), (4, .addr), (5, .int .i64), (42, .int .i64)]) (Lo := []) (S := (fun n x w => digest_state_end_l1 K n x.1 x.2.1 x.2.2.1 x.2.2.2.1 x.2.2.2.2.1 w)) (body := cd (bodyOf f53) [1, 1, 1, 1, 1, 1, 1, 0, 1, 0, 0]) (digest_state_end_Eok K) (digest_state_end_Rok K) rfl (Orc.nil _ _ _) (by kernel_rfl) (fun _ _ => by kernel_rfl) (fun _ _ _ => by kernel_rfl) n
noncomputable def digest_state_end_l1_se (K : Nat) : SE := stmtN [(1, .addr), (3, .int .u64), (4, .addr), (5, .int .i64), (42, .int .i64)] [] [(6, 7), (42, 56)] (fun x w => digest_state_end_l1 K K x.1 x.2.1 x.2.2.1 x.2.2.2.1 x.2.2.2.2.1 w)
theorem digest_state_end_l1_se_ok (K : Nat) (R : Rg) (h : subRB [(6, 7), (42, 56)] R = true) : (digest_state_end_l1_se K).Ok prog R (.block 2 (.loop (cd (bodyOf f53) [1, 1, 1, 1, 1, 1, 1, 0, 1, 0, 0]))) := stmtN_ok (Li := [(1, .addr), (3, .int .u64), (4, .addr), (5, .int .i64), (42, .int .i64)]) (Lo := []) (S := (fun x w => digest_state_end_l1 K K x.1 x.2.1 x.2.2.1 x.2.2.2.1 x.2.2.2.2.1 w)) (digest_state_end_l1_ok K K) (subR_of h)
theorem digest_state_end_l2_ok (K : Nat) (n : Nat) : StmtNOk prog [(1, .addr), (7, .sl), (61, .agg), (62, .int .i64)] [(7, .sl)] [(7, 8), (9, 10), (62, 72)] ((fun n x w => digest_state_end_l2 K n x.1 x.2.1 x.2.2.1 x.2.2.2.1 w) n) (.block 4 (.loop (cd (bodyOf f53) [1, 1, 1, 1, 1, 1, 1, 1, 1, 1, 0, 1, 0, 0]))) :=
    mk_loopN (O := tabL []) (root := (bodyOf f53)) (π := [1, 1, 1, 1, 1, 1, 1, 1, 1, 1, 0, 1, 0, 0]) (id := 4) (Li := [(1, .addr), (7, .sl), (61, .agg), (62, .int .i64)]) (Lo := [(7, .sl)]) (S := (fun n x w => digest_state_end_l2 K n x.1 x.2.1 x.2.2.1 x.2.2.2.1 w)) (body := cd (bodyOf f53) [1, 1, 1, 1, 1, 1, 1, 1, 1, 1, 0, 1, 0, 0]) (digest_state_end_Eok K) (digest_state_end_Rok K) rfl (Orc.nil _ _ _) (by kernel_rfl) (fun _ _ => by kernel_rfl) (fun _ _ _ => by kernel_rfl) n
noncomputable def digest_state_end_l2_se (K : Nat) : SE := stmtN [(1, .addr), (7, .sl), (61, .agg), (62, .int .i64)] [(7, .sl)] [(7, 8), (9, 10), (62, 72)] (fun x w => digest_state_end_l2 K K x.1 x.2.1 x.2.2.1 x.2.2.2.1 w)
theorem digest_state_end_l2_se_ok (K : Nat) (R : Rg) (h : subRB [(7, 8), (9, 10), (62, 72)] R = true) : (digest_state_end_l2_se K).Ok prog R (.block 4 (.loop (cd (bodyOf f53) [1, 1, 1, 1, 1, 1, 1, 1, 1, 1, 0, 1, 0, 0]))) := stmtN_ok (Li := [(1, .addr), (7, .sl), (61, .agg), (62, .int .i64)]) (Lo := [(7, .sl)]) (S := (fun x w => digest_state_end_l2 K K x.1 x.2.1 x.2.2.1 x.2.2.2.1 w)) (digest_state_end_l2_ok K K) (subR_of h)
theorem digest_state_end_facts : FunFacts prog 53 f53 (bodyOf f53) [(0, .agg)] [(0, 80)] := ⟨func53, by kernel_rfl, by kernel_rfl, by kernel_rfl, by kernel_rfl, by kernel_rfl⟩
theorem digest_state_end_calls (K : Nat) (x : TT [(0, .agg)]) (w : World) (y : TR [.sl]) (w2 : World) (h : digest_state_end K x.1 w = some (y, w2)) : Calls prog 53 (encA [(0, .agg)] x).toArray w (fun e w3 => e = .returned (resV (encR [.sl] y)) ∧ w3 = w2) :=
    mk_fun (O := tabL [([1, 1, 1, 1, 1, 0], digest_state_end_l0_se K), ([1, 1, 1, 1, 1, 1, 1, 0, 1], digest_state_end_l1_se K), ([1, 1, 1, 1, 1, 1, 1, 1, 1, 1, 0, 1], digest_state_end_l2_se K)]) (Lp := [(0, .agg)]) (Rt := [.sl]) (S := (fun x w => digest_state_end K x.1 w)) (digest_state_end_Eok K) (digest_state_end_Rok K) rfl digest_state_end_facts (Orc.cons (by kernel_rfl) (digest_state_end_l0_se_ok K [(0, 80)] (by kernel_rfl)) (Orc.cons (by kernel_rfl) (digest_state_end_l1_se_ok K [(0, 80)] (by kernel_rfl)) (Orc.cons (by kernel_rfl) (digest_state_end_l2_se_ok K [(0, 80)] (by kernel_rfl)) (Orc.nil _ _ _)))) (fun _ _ => by kernel_rfl) x w y w2 h
noncomputable def digest_state_end_ce (K : Nat) : CE := funE [(0, .agg)] [.sl] (fun x w => digest_state_end K x.1 w)
theorem digest_state_end_ok (K : Nat) : (digest_state_end_ce K).Ok prog 53 := funE_ok (Rt := [.sl]) (S := (fun x w => digest_state_end K x.1 w)) digest_state_end_facts fun x w y w2 h => digest_state_end_calls K x w y w2 h

noncomputable def digest_Stream_Sum_E (K : Nat) : List (Nat × CE) := [(53, digest_state_end_ce K)]
theorem digest_Stream_Sum_Eok (K : Nat) : Env.Ok prog (tab (digest_Stream_Sum_E K)) := (Env.cons (digest_state_end_ok K) (Env.nil _))
noncomputable def digest_Stream_Sum_R (K : Nat) : List (Nat × RE) := []
theorem digest_Stream_Sum_Rok (K : Nat) : REnv.Ok prog (tab (digest_Stream_Sum_R K)) := (REnv.nil _)
/-- (*coffer/digest.Stream).Sum -/
noncomputable def digest_Stream_Sum (K : Nat) (s0 : Option Addr) (w : World) : Option ((Sl × Unit) × World) :=
  if s0.isNone = true then (some ((⟨none, 0, 0⟩, ()), w)) else ((s0).bind fun p_1 =>
  (ldA 142 (p_1.add 0) w).bind fun v_2 =>
  bnd (digest_state_end K v_2 w) fun r_3 w_4 =>
  some ((r_3.1, ()), w_4))
theorem digest_Stream_Sum_facts : FunFacts prog 42 f42 (bodyOf f42) [(0, .ptr)] [(0, 10)] := ⟨func42, by kernel_rfl, by kernel_rfl, by kernel_rfl, by kernel_rfl, by kernel_rfl⟩
theorem digest_Stream_Sum_calls (K : Nat) (x : TT [(0, .ptr)]) (w : World) (y : TR [.sl]) (w2 : World) (h : digest_Stream_Sum K x.1 w = some (y, w2)) : Calls prog 42 (encA [(0, .ptr)] x).toArray w (fun e w3 => e = .returned (resV (encR [.sl] y)) ∧ w3 = w2) :=
    mk_fun (O := tabL []) (Lp := [(0, .ptr)]) (Rt := [.sl]) (S := (fun x w => digest_Stream_Sum K x.1 w)) (digest_Stream_Sum_Eok K) (digest_Stream_Sum_Rok K) rfl digest_Stream_Sum_facts (Orc.nil _ _ _) (fun _ _ => by kernel_rfl) x w y w2 h
noncomputable def digest_Stream_Sum_ce (K : Nat) : CE := funE [(0, .ptr)] [.sl] (fun x w => digest_Stream_Sum K x.1 w)
theorem digest_Stream_Sum_ok (K : Nat) : (digest_Stream_Sum_ce K).Ok prog 42 := funE_ok (Rt := [.sl]) (S := (fun x w => digest_Stream_Sum K x.1 w)) digest_Stream_Sum_facts fun x w y w2 h => digest_Stream_Sum_calls K x w y w2 h

noncomputable def digest_Sum_E (K : Nat) : List (Nat × CE) := [(40, digest_New_ce K), (41, digest_Stream_Write_ce K), (42, digest_Stream_Sum_ce K)]
theorem digest_Sum_Eok (K : Nat) : Env.Ok prog (tab (digest_Sum_E K)) := (Env.cons (digest_New_ok K) (Env.cons (digest_Stream_Write_ok K) (Env.cons (digest_Stream_Sum_ok K) (Env.nil _))))
noncomputable def digest_Sum_R (K : Nat) : List (Nat × RE) := []
theorem digest_Sum_Rok (K : Nat) : REnv.Ok prog (tab (digest_Sum_R K)) := (REnv.nil _)
noncomputable def digest_Sum_s0 (K : Nat) (parts1 : Sl) (s6 : Option Addr) (e7 : Int) (a14 : Bool) (w : World) : Option ((Int × Unit) × World) :=
  if a14 = true then (bnd (digest_Stream_Write K s6 parts1 w) fun r_3 w_4 =>
  some ((r_3.1, ()), w_4)) else (some ((e7, ()), w))
/-- coffer/digest.Sum -/
noncomputable def digest_Sum (K : Nat) (hash0 : Int) (parts1 : Sl) (w : World) : Option ((Sl × Int × Unit) × World) :=
  bnd (digest_New K hash0 w) fun r_1 w_2 =>
  bnd (digest_Sum_s0 K parts1 r_1.1 r_1.2.1 (r_1.2.1 == 0) w_2) fun y_5 w_6 =>
  if (y_5.1 != 0) = true then (some ((⟨none, 0, 0⟩, y_5.1, ()), w_6)) else (bnd (digest_Stream_Sum K r_1.1 w_6) fun r_7 w_8 =>
  some ((r_7.1, 0, ()), w_8))
theorem digest_Sum_s0_ok (K : Nat) : StmtNOk prog [(1, .sl), (6, .ptr), (7, .int .i64), (14, .bool)] [(7, .int .i64)] [(7, 8), (15, 18)] (fun x w => digest_Sum_s0 K x.1 x.2.1 x.2.2.1 x.2.2.2.1 w) (cd (bodyOf f34) [1, 1, 0, 1]) :=
    mk_stmtN (O := tabL []) (root := (bodyOf f34)) (π := [1, 1, 0, 1]) (Li := [(1, .sl), (6, .ptr), (7, .int .i64), (14, .bool)]) (Lo := [(7, .int .i64)]) (S := (fun x w => digest_Sum_s0 K x.1 x.2.1 x.2.2.1 x.2.2.2.1 w)) (digest_Sum_Eok K) (digest_Sum_Rok K) rfl (Orc.nil _ _ _) (by kernel_rfl) (fun _ _ => by kernel_rfl)
noncomputable def digest_Sum_s0_se (K : Nat) : SE := stmtN [(1, .sl), (6, .ptr), (7, .int .i64), (14, .bool)] [(7, .int .i64)] [(7, 8), (15, 18)] (fun x w => digest_Sum_s0 K x.1 x.2.1 x.2.2.1 x.2.2.2.1 w)
theorem digest_Sum_s0_se_ok (K : Nat) (R : Rg) (h : subRB [(7, 8), (15, 18)] R = true) : (digest_Sum_s0_se K).Ok prog R (cd (bodyOf f34) [1, 1, 0, 1]) := stmtN_ok (Li := [(1, .sl), (6, .ptr), (7, .int .i64), (14, .bool)]) (Lo := [(7, .int .i64)]) (S := (fun x w => digest_Sum_s0 K x.1 x.2.1 x.2.2.1 x.2.2.2.1 w)) (digest_Sum_s0_ok K) (subR_of h)
theorem digest_Sum_facts : FunFacts prog 34 f34 (bodyOf f34) [(0, .int .i64), (1, .sl)] [(0, 23)] := ⟨func34, by kernel_rfl, by kernel_rfl, by kernel_rfl, by kernel_rfl, by kernel_rfl⟩
theorem digest_Sum_calls (K : Nat) (x : TT [(0, .int .i64), (1, .sl)]) (w : World) (y : TR [.sl, .int .i64]) (w2 : World) (h : digest_Sum K x.1 x.2.1 w = some (y, w2)) : Calls prog 34 (encA [(0, .int .i64), (1, .sl)] x).toArray w (fun e w3 => e = .returned (resV (encR [.sl, .int .i64] y)) ∧ w3 = w2) :=
    mk_fun (O := tabL [([1, 1, 0, 1], digest_Sum_s0_se K)]) (Lp := [(0, .int .i64), (1, .sl)]) (Rt := [.sl, .int .i64]) (S := (fun x w => digest_Sum K x.1 x.2.1 w)) (digest_Sum_Eok K) (digest_Sum_Rok K) rfl digest_Sum_facts (Orc.cons (by kernel_rfl) (digest_Sum_s0_se_ok K [(0, 23)] (by kernel_rfl)) (Orc.nil _ _ _)) (fun _ _ => by kernel_rfl) x w y w2 h
noncomputable def digest_Sum_ce (K : Nat) : CE := funE [(0, .int .i64), (1, .sl)] [.sl, .int .i64] (fun x w => digest_Sum K x.1 x.2.1 w)
theorem digest_Sum_ok (K : Nat) : (digest_Sum_ce K).Ok prog 34 := funE_ok (Rt := [.sl, .int .i64]) (S := (fun x w => digest_Sum K x.1 x.2.1 w)) digest_Sum_facts fun x w y w2 h => digest_Sum_calls K x w y w2 h

noncomputable def shred_blender_spread_E (K : Nat) : List (Nat × CE) := [(21, digest_Size_ce), (33, shred_pieces_ce), (34, digest_Sum_ce K)]
theorem shred_blender_spread_Eok (K : Nat) : Env.Ok prog (tab (shred_blender_spread_E K)) := (Env.cons (digest_Size_ok) (Env.cons (shred_pieces_ok) (Env.cons (digest_Sum_ok K) (Env.nil _))))
noncomputable def shred_blender_spread_R (K : Nat) : List (Nat × RE) := []
theorem shred_blender_spread_Rok (K : Nat) : REnv.Ok prog (tab (shred_blender_spread_R K)) := (REnv.nil _)
noncomputable def shred_blender_spread_s0 (K : Nat) (b1 : Addr) (w : World) : Option ((Value × Unit) × World) :=
  (ldP b1 w.drew).bind fun v_14 =>
  (v_14).bind fun p_15 =>
  (ldS ((p_15.add 1).add 0) w.drew).bind fun v_16 =>
  (ldP b1 w.drew).bind fun v_17 =>
  (v_17).bind fun p_18 =>
  (ldI .i64 (p_18.add 0) w.drew).bind fun v_19 =>
  bnd (apd prog 22 22 (.slice none 0 0) (.slice v_16.a v_16.len v_16.cap) w.drew) fun s_20 w_21 =>
  (ldI .i64 (p_18.add 0) w_21).bind fun v_22 =>
  sameK (.int .i64 v_19) (.int .i64 v_22) ((ldP b1 w_21).bind fun v_23 =>
  sameK (.pointer v_17) (.pointer v_23) ((ldS ((p_15.add 1).add 0) w_21).bind fun v_24 =>
  sameK (.slice v_16.a v_16.len v_16.cap) (.slice v_24.a v_24.len v_24.cap) ((ldP b1 w_21).bind fun v_25 =>
  sameK (.pointer v_14) (.pointer v_25) (bnd (digest_Size v_19 w_21) fun r_26 w_27 =>
  (ldI .i64 (p_18.add 0) w_27).bind fun v_28 =>
  sameK (.int .i64 v_19) (.int .i64 v_28) ((ldP b1 w_27).bind fun v_29 =>
  sameK (.pointer v_17) (.pointer v_29) ((ldS ((p_15.add 1).add 0) w_27).bind fun v_30 =>
  sameK (.slice v_16.a v_16.len v_16.cap) (.slice v_30.a v_30.len v_30.cap) ((ldP b1 w_27).bind fun v_31 =>
  sameK (.pointer v_14) (.pointer v_31) (bnd (shred_pieces s_20 r_26.1 w_27) fun r_32 w_33 =>
  (ldI .i64 (p_18.add 0) w_33).bind fun v_34 =>
  sameK (.int .i64 v_19) (.int .i64 v_34) ((ldP b1 w_33).bind fun v_35 =>
  sameK (.pointer v_17) (.pointer v_35) ((ldS ((p_15.add 1).add 0) w_33).bind fun v_36 =>
  sameK (.slice v_16.a v_16.len v_16.cap) (.slice v_36.a v_36.len v_36.cap) ((ldP b1 w_33).bind fun v_37 =>
  sameK (.pointer v_14) (.pointer v_37) (some ((r_32.1, ()), w_33)))))))))))))
noncomputable def shred_blender_spread_pre (K : Nat) (b0 : Option Addr) (w : World) : Option ((Addr × Addr × Value × Unit) × World) :=
  bnd (newB #[(.pointer b0)] 59 w) fun p_9 w_10 =>
  bnd (newB z3 3 w_10) fun at_11 w_12 =>
  (stC at_11 (.int .i64 0) w_12).bind fun w_13 =>
  bnd (shred_blender_spread_s0 K p_9 w_13) fun y_38 w_39 =>
  some ((p_9, at_11, y_38.1, ()), w_39)
theorem shred_blender_spread_s0_ok (K : Nat) : StmtNOk prog [(1, .addr)] [(18, .val)] [(7, 19)] (fun x w => shred_blender_spread_s0 K x.1 w) (cd (chainOf 3 (bodyOf f23)) [1, 1, 0]) :=
    mk_regionH (R := [(7, 19)]) (Li := [(1, .addr)]) (Lo := [(18, .val)]) (S := (fun x w => shred_blender_spread_s0 K x.1 w)) (shred_blender_spread_Eok K) (shred_blender_spread_Rok K) rfl (fun _ _ => by kernel_rfl)
noncomputable def shred_blender_spread_s0_se (K : Nat) : SE := stmtN [(1, .addr)] [(18, .val)] [(7, 19)] (fun x w => shred_blender_spread_s0 K x.1 w)
theorem shred_blender_spread_s0_se_ok (K : Nat) (R : Rg) (h : subRB [(7, 19)] R = true) : (shred_blender_spread_s0_se K).Ok prog R (cd (chainOf 3 (bodyOf f23)) [1, 1, 0]) := stmtN_ok (Li := [(1, .addr)]) (Lo := [(18, .val)]) (S := (fun x w => shred_blender_spread_s0 K x.1 w)) (shred_blender_spread_s0_ok K) (subR_of h)
noncomputable def shred_blender_spread_pre_tab (K : Nat) : List Nat → Option SE := tabL [([1, 1, 0], shred_blender_spread_s0_se K)]
theorem shred_blender_spread_pre_orc (K : Nat) : Orc prog [(1, 3), (7, 19)] (chainOf 3 (bodyOf f23)) (shred_blender_spread_pre_tab K) := (Orc.cons (by kernel_rfl) (shred_blender_spread_s0_se_ok K [(1, 3), (7, 19)] (by kernel_rfl)) (Orc.nil _ _ _))
theorem shred_blender_spread_pre_ex (K : Nat) : ∀ (x : TT [(0, .ptr)]) (w : World), exec prog (tab (shred_blender_spread_E K)) (tab (shred_blender_spread_R K)) [(1, 3), (7, 19)] (shred_blender_spread_pre_tab K) (chainOf 3 (bodyOf f23)) [] (encs [(0, .ptr)] x []) w (outN [(1, .addr), (2, .addr), (18, .val)]) = (fun x w => shred_blender_spread_pre K x.1 w) x w := fun _ _ => by kernel_rfl
noncomputable def shred_blender_spread_b5 (K : Nat) (b1 : Addr) (i3 : Int) (p4 : Sl) (w : World) : Option ((Sl × Unit) × World) :=
  (ldP b1 w).bind fun v_40 =>
  (v_40).bind fun p_41 =>
  (ldI .i64 (p_41.add 0) w).bind fun v_42 =>
  bnd (bldS prog 22 4 #[(0, (.int .u8 (IntKind.u8.wrap (Int.fdiv i3 (2 ^ 24))))), (1, (.int .u8 (IntKind.u8.wrap (Int.fdiv i3 (2 ^ 16))))), (2, (.int .u8 (IntKind.u8.wrap (Int.fdiv i3 (2 ^ 8))))), (3, (.int .u8 (IntKind.u8.wrap i3)))] w) fun s_43 w_44 =>
  bnd (bldS prog 68 2 #[(0, (.slice s_43.a s_43.len s_43.cap)), (1, (.slice p4.a p4.len p4.cap))] w_44) fun s_45 w_46 =>
  bnd (digest_Sum K v_42 s_45 w_46) fun r_47 w_48 =>
  some ((r_47.1, ()), w_48)
theorem shred_blender_spread_b5_in (K : Nat) : StmtNIn prog [(1, .addr), (3, .int .u32), (4, .sl)] [(5, .sl)] [(5, 7), (21, 43)] (fun x w => shred_blender_spread_b5 K x.1 x.2.1 x.2.2.1 w) (cd (roundOf (cd (bodyOf f23) [1, 1, 1, 0])) [0, 0]) :=
    mk_regIn (R := [(5, 7), (21, 43)]) (Li := [(1, .addr), (3, .int .u32), (4, .sl)]) (Lo := [(5, .sl)]) (S := (fun x w => shred_blender_spread_b5 K x.1 x.2.1 x.2.2.1 w)) (shred_blender_spread_Eok K) (shred_blender_spread_Rok K) (by kernel_rfl) (by kernel_rfl) (fun _ _ => by kernel_rfl)
noncomputable def shred_blender_spread_b6 (K : Nat) (b1 : Addr) (at2 : Addr) (p4 : Sl) (d5 : Sl) (w : World) : Option ((Unit) × World) :=
  if (0 : Int) ≤ ((p4.len : Nat) : Int) ∧ ((p4.len : Nat) : Int) ≤ ((d5.cap : Nat) : Int) then ((ldP b1 w.drew).bind fun v_49 =>
  (v_49).bind fun p_50 =>
  (ldS ((p_50.add 1).add 0) w.drew).bind fun v_51 =>
  (ldI .i64 at2 w.drew).bind fun v_52 =>
  if (0 : Int) ≤ v_52 ∧ v_52 ≤ ((v_51.len : Nat) : Int) then ((ldI .i64 at2 w.drew).bind fun v_53 =>
  bnd (cpy prog 22 22 (.slice (sla v_51.a (Int.toNat (v_52)) v_51.cap 1) (v_51.len - (Int.toNat (v_52))) (v_51.cap - (Int.toNat (v_52)))) (.slice (sla d5.a 0 d5.cap 1) ((Int.toNat (((p4.len : Nat) : Int))) - 0) (d5.cap - 0)) w.drew) fun s_54 w_55 =>
  (ldI .i64 at2 w_55).bind fun v_56 =>
  sameK (.int .i64 v_53) (.int .i64 v_56) ((stC at2 (.int .i64 (IntKind.i64.wrap (v_53 + s_54))) w_55).bind fun w_57 =>
  some ((), w_57))) else none) else none
theorem shred_blender_spread_b6_in (K : Nat) : StmtNIn prog [(1, .addr), (2, .addr), (4, .sl), (5, .sl)] [] [(43, 57)] (fun x w => shred_blender_spread_b6 K x.1 x.2.1 x.2.2.1 x.2.2.2.1 w) (cd (roundOf (cd (bodyOf f23) [1, 1, 1, 0])) [0, 1]) :=
    mk_drawIn (R := [(43, 57)]) (Li := [(1, .addr), (2, .addr), (4, .sl), (5, .sl)]) (Lo := []) (S := (fun x w => shred_blender_spread_b6 K x.1 x.2.1 x.2.2.1 x.2.2.2.1 w)) (shred_blender_spread_Eok K) (shred_blender_spread_Rok K) rfl (by kernel_rfl) (by kernel_rfl) (by kernel_rfl) (fun _ _ => by kernel_rfl)
noncomputable def shred_blender_spread_a3 (K : Nat) (a19 : Int) (w : World) : Option ((Int × Unit) × World) :=
  some ((a19, ()), w)
theorem shred_blender_spread_a3_in (K : Nat) : StmtNIn prog [(19, .int .u32)] [(3, .int .u32)] [(3, 4)] (fun x w => shred_blender_spread_a3 K x.1 w) (cd (assignOf (cd (bodyOf f23) [1, 1, 1, 0])) [0]) :=
    mk_regIn (R := [(3, 4)]) (Li := [(19, .int .u32)]) (Lo := [(3, .int .u32)]) (S := (fun x w => shred_blender_spread_a3 K x.1 w)) (shred_blender_spread_Eok K) (shred_blender_spread_Rok K) (by kernel_rfl) (by kernel_rfl) (fun _ _ => by kernel_rfl)
noncomputable def shred_blender_spread_a4 (K : Nat) (a20 : Sl) (w : World) : Option ((Sl × Unit) × World) :=
  some ((a20, ()), w)
theorem shred_blender_spread_a4_in (K : Nat) : StmtNIn prog [(20, .sl)] [(4, .sl)] [(4, 5)] (fun x w => shred_blender_spread_a4 K x.1 w) (cd (assignOf (cd (bodyOf f23) [1, 1, 1, 0])) [1]) :=
    mk_regIn (R := [(4, 5)]) (Li := [(20, .sl)]) (Lo := [(4, .sl)]) (S := (fun x w => shred_blender_spread_a4 K x.1 w)) (shred_blender_spread_Eok K) (shred_blender_spread_Rok K) (by kernel_rfl) (by kernel_rfl) (fun _ _ => by kernel_rfl)

noncomputable def shred_Wipe_E : List (Nat × CE) := []
theorem shred_Wipe_Eok : Env.Ok prog (tab (shred_Wipe_E)) := (Env.nil _)
noncomputable def shred_Wipe_R : List (Nat × RE) := []
theorem shred_Wipe_Rok : REnv.Ok prog (tab (shred_Wipe_R)) := (REnv.nil _)
/-- coffer/shred.Wipe -/
noncomputable def shred_Wipe (b0 : Sl) (w : World) : Option ((Unit) × World) :=
  bnd (clr prog 22 (.slice b0.a b0.len b0.cap) w) fun _ w_2 =>
  some ((), w_2)
theorem shred_Wipe_facts : FunFacts prog 36 f36 (bodyOf f36) [(0, .sl)] [(0, 3)] := ⟨func36, by kernel_rfl, by kernel_rfl, by kernel_rfl, by kernel_rfl, by kernel_rfl⟩
theorem shred_Wipe_calls (x : TT [(0, .sl)]) (w : World) (y : TR []) (w2 : World) (h : shred_Wipe x.1 w = some (y, w2)) : Calls prog 36 (encA [(0, .sl)] x).toArray w (fun e w3 => e = .returned (resV (encR [] y)) ∧ w3 = w2) :=
    mk_fun (O := tabL []) (Lp := [(0, .sl)]) (Rt := []) (S := (fun x w => shred_Wipe x.1 w)) (shred_Wipe_Eok) (shred_Wipe_Rok) rfl shred_Wipe_facts (Orc.nil _ _ _) (fun _ _ => by kernel_rfl) x w y w2 h
noncomputable def shred_Wipe_ce : CE := funE [(0, .sl)] [] (fun x w => shred_Wipe x.1 w)
theorem shred_Wipe_ok : (shred_Wipe_ce).Ok prog 36 := funE_ok (Rt := []) (S := (fun x w => shred_Wipe x.1 w)) shred_Wipe_facts fun x w y w2 h => shred_Wipe_calls x w y w2 h

noncomputable def shred_buffer_wipe_E : List (Nat × CE) := [(36, shred_Wipe_ce)]
theorem shred_buffer_wipe_Eok : Env.Ok prog (tab (shred_buffer_wipe_E)) := (Env.cons (shred_Wipe_ok) (Env.nil _))
noncomputable def shred_buffer_wipe_R : List (Nat × RE) := []
theorem shred_buffer_wipe_Rok : REnv.Ok prog (tab (shred_buffer_wipe_R)) := (REnv.nil _)
/-- (*coffer/shred.buffer).wipe -/
noncomputable def shred_buffer_wipe (b0 : Option Addr) (w : World) : Option ((Unit) × World) :=
  (b0).bind fun p_1 =>
  (ldS (p_1.add 0) w).bind fun v_2 =>
  bnd (shred_Wipe v_2 w) fun r_3 w_4 =>
  some ((), w_4)
theorem shred_buffer_wipe_facts : FunFacts prog 26 f26 (bodyOf f26) [(0, .ptr)] [(0, 7)] := ⟨func26, by kernel_rfl, by kernel_rfl, by kernel_rfl, by kernel_rfl, by kernel_rfl⟩
theorem shred_buffer_wipe_calls (x : TT [(0, .ptr)]) (w : World) (y : TR []) (w2 : World) (h : shred_buffer_wipe x.1 w = some (y, w2)) : Calls prog 26 (encA [(0, .ptr)] x).toArray w (fun e w3 => e = .returned (resV (encR [] y)) ∧ w3 = w2) :=
    mk_fun (O := tabL []) (Lp := [(0, .ptr)]) (Rt := []) (S := (fun x w => shred_buffer_wipe x.1 w)) (shred_buffer_wipe_Eok) (shred_buffer_wipe_Rok) rfl shred_buffer_wipe_facts (Orc.nil _ _ _) (fun _ _ => by kernel_rfl) x w y w2 h
theorem shred_buffer_wipe_callsD (x : TT [(0, .ptr)]) (u : FrameMode) (w : World) (y : TR []) (w2 : World) (h : shred_buffer_wipe x.1 w = some (y, w2)) : CallsD prog 26 (encA [(0, .ptr)] x).toArray u w (fun e u' w3 => u' = u ∧ (e = .returned (resV (encR [] y)) ∧ w3 = w2)) :=
    mk_funD (O := tabL []) (Lp := [(0, .ptr)]) (Rt := []) (S := (fun x w => shred_buffer_wipe x.1 w)) (shred_buffer_wipe_Eok) (shred_buffer_wipe_Rok) rfl shred_buffer_wipe_facts (Orc.nil _ _ _) (fun _ _ => by kernel_rfl) x u w y w2 h
noncomputable def shred_buffer_wipe_ce : CE := funE [(0, .ptr)] [] (fun x w => shred_buffer_wipe x.1 w)
theorem shred_buffer_wipe_ok : (shred_buffer_wipe_ce).Ok prog 26 := funE_ok (Rt := []) (S := (fun x w => shred_buffer_wipe x.1 w)) shred_buffer_wipe_facts fun x w y w2 h => shred_buffer_wipe_calls x w y w2 h

noncomputable def shred_Random_R : List (Nat × RE) := []
theorem shred_Random_Rok : REnv.Ok prog (tab (shred_Random_R)) := (REnv.nil _)
noncomputable def shred_Random_s0 (size0 : Int) (stripes1 : Int) : Option (Out (Unit) (Int × Int × Unit)) :=
  if (decide (size0 < 1)) = true then (some (.ret (0, 5, ()))) else (if (decide (size0 > 1024)) = true then (some (.ret (0, 4, ()))) else (if (decide (stripes1 < 1)) = true then (some (.ret (0, 40, ()))) else (if (decide (stripes1 > 4000)) = true then (some (.ret (0, 40, ()))) else (some (.norm ())))))
/-- coffer/shred.Random -/
noncomputable def shred_Random (size0 : Int) (stripes1 : Int) : Option (Int × Int × Unit) :=
  (shred_Random_s0 size0 stripes1).bind fun y_1 =>
  (match y_1 with
  | .norm z_2n => (some ((IntKind.i64.wrap (size0 * (IntKind.i64.wrap (stripes1 - 1)))), 0, ()))
  | .ret z_2r => (some (z_2r.1, z_2r.2.1, ())))
theorem shred_Random_s0_ok : StmtQOk prog [(0, .int .i64), (1, .int .i64)] [] [(4, .int .i64), (5, .int .i64)] [(4, 19)] (fun x w => shred_Random_s0 x.1 x.2.1) (cd (bodyOf f30) [1, 0]) :=
    mk_stmtQ (O := tabL []) (root := (bodyOf f30)) (π := [1, 0]) (Li := [(0, .int .i64), (1, .int .i64)]) (Lo := []) (Lr := [(4, .int .i64), (5, .int .i64)]) (S := (fun x w => shred_Random_s0 x.1 x.2.1)) (shred_Random_Rok) (OrcQ.nil _ _ _) (by kernel_rfl) (fun _ _ => by kernel_rfl)
noncomputable def shred_Random_s0_se : SQ := stmtQ [(0, .int .i64), (1, .int .i64)] [] [(4, .int .i64), (5, .int .i64)] [(4, 19)] (fun x w => shred_Random_s0 x.1 x.2.1)
theorem shred_Random_s0_se_ok (R : Rg) (h : subRB [(4, 19)] R = true) : (shred_Random_s0_se).Ok prog R (cd (bodyOf f30) [1, 0]) := stmtQ_ok (Li := [(0, .int .i64), (1, .int .i64)]) (Lo := []) (Lr := [(4, .int .i64), (5, .int .i64)]) (S := (fun x w => shred_Random_s0 x.1 x.2.1)) (shred_Random_s0_ok) (subR_of h)
theorem shred_Random_facts : FunFacts prog 30 f30 (bodyOf f30) [(0, .int .i64), (1, .int .i64)] [(0, 23)] := ⟨func30, by kernel_rfl, by kernel_rfl, by kernel_rfl, by kernel_rfl, by kernel_rfl⟩
theorem shred_Random_calls (x : TT [(0, .int .i64), (1, .int .i64)]) (w : World) (y : TR [.int .i64, .int .i64]) (h : shred_Random x.1 x.2.1 = some y) : Calls prog 30 (encA [(0, .int .i64), (1, .int .i64)] x).toArray w (fun e w3 => e = .returned (resV (encR [.int .i64, .int .i64] y)) ∧ w3 = w) :=
    mk_funQ (O := tabL [([1, 0], shred_Random_s0_se)]) (Lp := [(0, .int .i64), (1, .int .i64)]) (Rt := [.int .i64, .int .i64]) (S := (fun x w => shred_Random x.1 x.2.1)) (shred_Random_Rok) shred_Random_facts (OrcQ.cons (by kernel_rfl) (shred_Random_s0_se_ok [(0, 23)] (by kernel_rfl)) (OrcQ.nil _ _ _)) (fun _ _ => by kernel_rfl) x w y h
noncomputable def shred_Random_re : RE := funR [(0, .int .i64), (1, .int .i64)] [.int .i64, .int .i64] (fun x w => shred_Random x.1 x.2.1)
theorem shred_Random_ok : (shred_Random_re).Ok prog 30 := funR_ok (Rt := [.int .i64, .int .i64]) (S := (fun x w => shred_Random x.1 x.2.1)) shred_Random_facts fun x w y h => shred_Random_calls x w y h

noncomputable def shred_pieces_1_E (K : Nat) : List (Nat × CE) := []
theorem shred_pieces_1_Eok (K : Nat) : Env.Ok prog (tab (shred_pieces_1_E K)) := (Env.nil _)
noncomputable def shred_pieces_1_R (K : Nat) : List (Nat × RE) := []
theorem shred_pieces_1_Rok (K : Nat) : REnv.Ok prog (tab (shred_pieces_1_R K)) := (REnv.nil _)
noncomputable def shred_pieces_1_r0 (K : Nat)  (w : World) : Option ((Int × Unit) × World) :=
  some ((0, ()), w)
theorem shred_pieces_1_r0_in (K : Nat) : StmtNIn prog [] [(4, .int .u32)] [(4, 5)] (fun x w => shred_pieces_1_r0 K  w) (cd (bodyOf f39) [0]) :=
    mk_regIn (R := [(4, 5)]) (Li := []) (Lo := [(4, .int .u32)]) (S := (fun x w => shred_pieces_1_r0 K  w)) (shred_pieces_1_Eok K) (shred_pieces_1_Rok K) (by kernel_rfl) (by kernel_rfl) (fun _ _ => by kernel_rfl)
noncomputable def shred_pieces_1_r1 (K : Nat) (a1 : Addr) (w : World) : Option ((Bool × Unit) × World) :=
  (ldS a1 w).bind fun v_1 =>
  some (((decide (((v_1.len : Nat) : Int) > 0)), ()), w)
theorem shred_pieces_1_r1_in (K : Nat) : StmtNIn prog [(1, .addr)] [(8, .bool)] [(6, 9)] (fun x w => shred_pieces_1_r1 K x.1 w) (cd (bodyOf f39) [1, 0, 0, 0, 0]) :=
    mk_regIn (R := [(6, 9)]) (Li := [(1, .addr)]) (Lo := [(8, .bool)]) (S := (fun x w => shred_pieces_1_r1 K x.1 w)) (shred_pieces_1_Eok K) (shred_pieces_1_Rok K) (by kernel_rfl) (by kernel_rfl) (fun _ _ => by kernel_rfl)
noncomputable def shred_pieces_1_r3 (K : Nat) (a1 : Addr) (a2 : Addr) (w : World) : Option ((Int × Unit) × World) :=
  (ldI .i64 a2 w).bind fun v_2 =>
  (ldS a1 w).bind fun v_3 =>
  some (((if ((v_3.len : Nat) : Int) < v_2 then ((v_3.len : Nat) : Int) else v_2), ()), w)
theorem shred_pieces_1_r3_in (K : Nat) : StmtNIn prog [(1, .addr), (2, .addr)] [(5, .int .i64)] [(5, 6), (11, 15)] (fun x w => shred_pieces_1_r3 K x.1 x.2.1 w) (cd (bodyOf f39) [1, 0, 0, 1, 0, 0, 0]) :=
    mk_regIn (R := [(5, 6), (11, 15)]) (Li := [(1, .addr), (2, .addr)]) (Lo := [(5, .int .i64)]) (S := (fun x w => shred_pieces_1_r3 K x.1 x.2.1 w)) (shred_pieces_1_Eok K) (shred_pieces_1_Rok K) (by kernel_rfl) (by kernel_rfl) (fun _ _ => by kernel_rfl)
noncomputable def shred_pieces_1_r4 (K : Nat) (yield0 : Value) (a1 : Addr) (i4 : Int) (n5 : Int) (w : World) : Option ((Value × Int × Sl × Unit) × World) :=
  (ldS a1 w).bind fun v_4 =>
  if (0 : Int) ≤ n5 ∧ n5 ≤ ((v_4.cap : Nat) : Int) then (if (0 : Int) ≤ n5 ∧ n5 ≤ (((Int.toNat (n5)) : Nat) : Int) then (some ((yield0, i4, ⟨(sla v_4.a 0 (Int.toNat (n5)) 1), ((Int.toNat (n5)) - 0), ((Int.toNat (n5)) - 0)⟩, ()), w)) else none) else none
theorem shred_pieces_1_r4_in (K : Nat) : FrontIn prog [(0, .val), (1, .addr), (4, .int .u32), (5, .int .i64)] [(15, .val), (16, .int .u32), (20, .sl)] [(15, 21)] (fun x w => shred_pieces_1_r4 K x.1 x.2.1 x.2.2.1 x.2.2.2.1 w) (cd (bodyOf f39) [1, 0, 0, 1, 0, 0, 1, 0, 0]) 6 :=
    mk_frontIn (R := [(15, 21)]) (Li := [(0, .val), (1, .addr), (4, .int .u32), (5, .int .i64)]) (Lo := [(15, .val), (16, .int .u32), (20, .sl)]) (S := (fun x w => shred_pieces_1_r4 K x.1 x.2.1 x.2.2.1 x.2.2.2.1 w)) (shred_pieces_1_Eok K) (shred_pieces_1_Rok K) (by kernel_rfl) (by kernel_rfl) (fun _ _ => by kernel_rfl)
noncomputable def shred_pieces_1_r5 (K : Nat) (a1 : Addr) (n5 : Int) (w : World) : Option ((Unit) × World) :=
  (ldS a1 w).bind fun v_5 =>
  if (0 : Int) ≤ n5 ∧ n5 ≤ ((v_5.len : Nat) : Int) then ((stC a1 (.slice (sla v_5.a (Int.toNat (n5)) v_5.cap 1) (v_5.len - (Int.toNat (n5))) (v_5.cap - (Int.toNat (n5)))) w).bind fun w_6 =>
  some ((), w_6)) else none
theorem shred_pieces_1_r5_in (K : Nat) : StmtNIn prog [(1, .addr), (5, .int .i64)] [] [(23, 26)] (fun x w => shred_pieces_1_r5 K x.1 x.2.1 w) (cd (bodyOf f39) [1, 0, 0, 1, 0, 0, 1, 1]) :=
    mk_regIn (R := [(23, 26)]) (Li := [(1, .addr), (5, .int .i64)]) (Lo := []) (S := (fun x w => shred_pieces_1_r5 K x.1 x.2.1 w)) (shred_pieces_1_Eok K) (shred_pieces_1_Rok K) (by kernel_rfl) (by kernel_rfl) (fun _ _ => by kernel_rfl)
noncomputable def shred_pieces_1_r2 (K : Nat) (i4 : Int) (w : World) : Option ((Int × Unit) × World) :=
  some (((IntKind.u32.wrap (i4 + 1)), ()), w)
theorem shred_pieces_1_r2_in (K : Nat) : StmtNIn prog [(4, .int .u32)] [(4, .int .u32)] [(4, 5), (9, 11)] (fun x w => shred_pieces_1_r2 K x.1 w) (cd (bodyOf f39) [1, 0, 0, 1, 1]) :=
    mk_regIn (R := [(4, 5), (9, 11)]) (Li := [(4, .int .u32)]) (Lo := [(4, .int .u32)]) (S := (fun x w => shred_pieces_1_r2 K x.1 w)) (shred_pieces_1_Eok K) (shred_pieces_1_Rok K) (by kernel_rfl) (by kernel_rfl) (fun _ _ => by kernel_rfl)

end Go.Sh
