/- Texts of this claim, put together: Sh4, Sh5 -/
import Derived.Test.YtchiihkiiofhcaaDoorAllShalegmj
/- What functions of the program do, as Lean functions; that the machine does just that. Printed by shal.py, a program of this claim's writer. -/
set_option maxRecDepth 100000
set_option linter.unusedVariables false
namespace Go.Sh
open Go.Fw Go.Proofs.Tryd

noncomputable def ref01_taken64_E (K : Nat) : List (Nat × CE) := []
theorem ref01_taken64_Eok (K : Nat) : Env.Ok prog (tab (ref01_taken64_E K)) := (Env.nil _)
noncomputable def ref01_taken64_R (K : Nat) : List (Nat × RE) := []
theorem ref01_taken64_Rok (K : Nat) : REnv.Ok prog (tab (ref01_taken64_R K)) := (REnv.nil _)
noncomputable def ref01_taken64_l1_b (K : Nat) (rec : Sl → Addr → Addr → Addr → Int → Int → World → Option ((Unit) × World)) (block1 : Sl) (h2 : Addr) (a4 : Addr) (w5 : Addr) (t6 : Int) (i7 : Int) (w : World) : Option ((Unit) × World) :=
  if (decide (i7 < 8)) = true then (if (0 : Int) ≤ t6 ∧ t6 < ((80 : Nat) : Int) then ((block1.a).bind fun p_7 =>
  if (0 : Int) ≤ (IntKind.i64.wrap ((IntKind.i64.wrap (8 * t6)) + i7)) ∧ (IntKind.i64.wrap ((IntKind.i64.wrap (8 * t6)) + i7)) < ((block1.len : Nat) : Int) then ((ldI .u64 (w5.add ((Int.toNat t6) * 1)) w.drew).bind fun v_8 =>
  (ldI .u8 (p_7.add ((Int.toNat (IntKind.i64.wrap ((IntKind.i64.wrap (8 * t6)) + i7))) * 1)) w.drew).bind fun v_9 =>
  if (0 : Int) ≤ t6 ∧ t6 < ((80 : Nat) : Int) then ((stC (w5.add ((Int.toNat t6) * 1)) (.int .u64 (bits .or .u64 (IntKind.u64.wrap (v_8 * 2 ^ 8)) (IntKind.u64.wrap v_9))) w.drew).bind fun w_10 =>
  rec block1 h2 a4 w5 t6 (IntKind.i64.wrap (i7 + 1)) w_10) else none) else none) else none) else (some ((), w))
noncomputable def ref01_taken64_l1 (K : Nat) (n : Nat) : Sl → Addr → Addr → Addr → Int → Int → World → Option ((Unit) × World) := iter (fun _ _ _ _ _ _ _ => none) (ref01_taken64_l1_b K) n
noncomputable def ref01_taken64_l0_b (K : Nat) (rec : Sl → Addr → Addr → Addr → Int → World → Option ((Unit) × World)) (block1 : Sl) (h2 : Addr) (a4 : Addr) (w5 : Addr) (t6 : Int) (w : World) : Option ((Unit) × World) :=
  if (decide (t6 < 16)) = true then (bnd (ref01_taken64_l1 K K block1 h2 a4 w5 t6 0 w) fun y_11 w_12 =>
  rec block1 h2 a4 w5 (IntKind.i64.wrap (t6 + 1)) w_12) else (some ((), w))
noncomputable def ref01_taken64_l0 (K : Nat) (n : Nat) : Sl → Addr → Addr → Addr → Int → World → Option ((Unit) × World) := iter (fun _ _ _ _ _ _ => none) (ref01_taken64_l0_b K) n
noncomputable def ref01_taken64_l2_b (K : Nat) (rec : Addr → Addr → Addr → Int → World → Option ((Unit) × World)) (h2 : Addr) (a4 : Addr) (w5 : Addr) (t8 : Int) (w : World) : Option ((Unit) × World) :=
  if (decide (t8 < 80)) = true then (if (0 : Int) ≤ (IntKind.i64.wrap (t8 - 15)) ∧ (IntKind.i64.wrap (t8 - 15)) < ((80 : Nat) : Int) then ((ldI .u64 (w5.add ((Int.toNat (IntKind.i64.wrap (t8 - 15))) * 1)) w).bind fun v_15 =>
  if (0 : Int) ≤ (IntKind.i64.wrap (t8 - 2)) ∧ (IntKind.i64.wrap (t8 - 2)) < ((80 : Nat) : Int) then ((ldI .u64 (w5.add ((Int.toNat (IntKind.i64.wrap (t8 - 2))) * 1)) w).bind fun v_16 =>
  if (0 : Int) ≤ (IntKind.i64.wrap (t8 - 7)) ∧ (IntKind.i64.wrap (t8 - 7)) < ((80 : Nat) : Int) then (if (0 : Int) ≤ (IntKind.i64.wrap (t8 - 16)) ∧ (IntKind.i64.wrap (t8 - 16)) < ((80 : Nat) : Int) then ((ldI .u64 (w5.add ((Int.toNat (IntKind.i64.wrap (t8 - 7))) * 1)) w.drew).bind fun v_17 =>
  (ldI .u64 (w5.add ((Int.toNat (IntKind.i64.wrap (t8 - 16))) * 1)) w.drew).bind fun v_18 =>
  if (0 : Int) ≤ t8 ∧ t8 < ((80 : Nat) : Int) then ((stC (w5.add ((Int.toNat t8) * 1)) (.int .u64 (IntKind.u64.wrap ((IntKind.u64.wrap ((IntKind.u64.wrap ((bits .xor .u64 (bits .xor .u64 (bits .or .u64 (Int.fdiv v_16 (2 ^ 19)) (IntKind.u64.wrap (v_16 * 2 ^ 45))) (bits .or .u64 (Int.fdiv v_16 (2 ^ 61)) (IntKind.u64.wrap (v_16 * 2 ^ 3)))) (Int.fdiv v_16 (2 ^ 6))) + v_17)) + (bits .xor .u64 (bits .xor .u64 (bits .or .u64 (Int.fdiv v_15 (2 ^ 1)) (IntKind.u64.wrap (v_15 * 2 ^ 63))) (bits .or .u64 (Int.fdiv v_15 (2 ^ 8)) (IntKind.u64.wrap (v_15 * 2 ^ 56)))) (Int.fdiv v_15 (2 ^ 7))))) + v_18))) w.drew).bind fun w_19 =>
  rec h2 a4 w5 (IntKind.i64.wrap (t8 + 1)) w_19) else none) else none) else none) else none) else none) else (some ((), w))
noncomputable def ref01_taken64_l2 (K : Nat) (n : Nat) : Addr → Addr → Addr → Int → World → Option ((Unit) × World) := iter (fun _ _ _ _ _ => none) (ref01_taken64_l2_b K) n
noncomputable def ref01_taken64_l3_b (K : Nat) (rec : Addr → Addr → Addr → Int → Int → Int → Int → Int → Int → Int → Int → Int → World → Option ((Int × Int × Int × Int × Int × Int × Int × Int × Unit) × World)) (h2 : Addr) (a4 : Addr) (w5 : Addr) (a13 : Int) (b14 : Int) (c15 : Int) (d16 : Int) (e17 : Int) (f18 : Int) (g19 : Int) (z20 : Int) (t21 : Int) (w : World) : Option ((Int × Int × Int × Int × Int × Int × Int × Int × Unit) × World) :=
  if (decide (t21 < 80)) = true then (if (0 : Int) ≤ t21 ∧ t21 < ((80 : Nat) : Int) then (if (0 : Int) ≤ t21 ∧ t21 < ((80 : Nat) : Int) then ((ldI .u64 ((⟨2, 0, none⟩ : Addr).add ((Int.toNat t21) * 1)) w.drew).bind fun v_30 =>
  (ldI .u64 (w5.add ((Int.toNat t21) * 1)) w.drew).bind fun v_31 =>
  rec h2 a4 w5 (IntKind.u64.wrap ((IntKind.u64.wrap ((IntKind.u64.wrap ((IntKind.u64.wrap ((IntKind.u64.wrap (z20 + (bits .xor .u64 (bits .xor .u64 (bits .or .u64 (Int.fdiv e17 (2 ^ 14)) (IntKind.u64.wrap (e17 * 2 ^ 50))) (bits .or .u64 (Int.fdiv e17 (2 ^ 18)) (IntKind.u64.wrap (e17 * 2 ^ 46)))) (bits .or .u64 (Int.fdiv e17 (2 ^ 41)) (IntKind.u64.wrap (e17 * 2 ^ 23)))))) + (bits .or .u64 (bits .and .u64 e17 f18) (bits .and .u64 (bits .xor .u64 IntKind.u64.max e17) g19)))) + v_30)) + v_31)) + (IntKind.u64.wrap ((bits .xor .u64 (bits .xor .u64 (bits .or .u64 (Int.fdiv a13 (2 ^ 28)) (IntKind.u64.wrap (a13 * 2 ^ 36))) (bits .or .u64 (Int.fdiv a13 (2 ^ 34)) (IntKind.u64.wrap (a13 * 2 ^ 30)))) (bits .or .u64 (Int.fdiv a13 (2 ^ 39)) (IntKind.u64.wrap (a13 * 2 ^ 25)))) + (bits .or .u64 (bits .or .u64 (bits .and .u64 a13 b14) (bits .and .u64 a13 c15)) (bits .and .u64 b14 c15)))))) a13 b14 c15 (IntKind.u64.wrap (d16 + (IntKind.u64.wrap ((IntKind.u64.wrap ((IntKind.u64.wrap ((IntKind.u64.wrap (z20 + (bits .xor .u64 (bits .xor .u64 (bits .or .u64 (Int.fdiv e17 (2 ^ 14)) (IntKind.u64.wrap (e17 * 2 ^ 50))) (bits .or .u64 (Int.fdiv e17 (2 ^ 18)) (IntKind.u64.wrap (e17 * 2 ^ 46)))) (bits .or .u64 (Int.fdiv e17 (2 ^ 41)) (IntKind.u64.wrap (e17 * 2 ^ 23)))))) + (bits .or .u64 (bits .and .u64 e17 f18) (bits .and .u64 (bits .xor .u64 IntKind.u64.max e17) g19)))) + v_30)) + v_31)))) e17 f18 g19 (IntKind.i64.wrap (t21 + 1)) w.drew) else none) else none) else (some ((a13, b14, c15, d16, e17, f18, g19, z20, ()), w))
noncomputable def ref01_taken64_l3 (K : Nat) (n : Nat) : Addr → Addr → Addr → Int → Int → Int → Int → Int → Int → Int → Int → Int → World → Option ((Int × Int × Int × Int × Int × Int × Int × Int × Unit) × World) := iter (fun _ _ _ _ _ _ _ _ _ _ _ _ _ => none) (ref01_taken64_l3_b K) n
/-- coffer/cofferref01.taken64 -/
noncomputable def ref01_taken64 (K : Nat) (h0 : Array Value) (block1 : Sl) (w : World) : Option (((Array Value) × Unit) × World) :=
  bnd (newB h0 81 w) fun p_1 w_2 =>
  bnd (newB z81 81 w_2) fun p_3 w_4 =>
  bnd (newB z101 101 w_4) fun w_5 w_6 =>
  bnd (ref01_taken64_l0 K K block1 p_1 p_3 w_5 0 w_6) fun y_13 w_14 =>
  bnd (ref01_taken64_l2 K K p_1 p_3 w_5 16 w_14) fun y_20 w_21 =>
  (ldI .u64 (p_1.add (0 * 1)) w_21.drew).bind fun v_22 =>
  (ldI .u64 (p_1.add (1 * 1)) w_21.drew).bind fun v_23 =>
  (ldI .u64 (p_1.add (2 * 1)) w_21.drew).bind fun v_24 =>
  (ldI .u64 (p_1.add (3 * 1)) w_21.drew).bind fun v_25 =>
  (ldI .u64 (p_1.add (4 * 1)) w_21.drew.drew).bind fun v_26 =>
  (ldI .u64 (p_1.add (5 * 1)) w_21.drew.drew).bind fun v_27 =>
  (ldI .u64 (p_1.add (6 * 1)) w_21.drew.drew).bind fun v_28 =>
  (ldI .u64 (p_1.add (7 * 1)) w_21.drew.drew).bind fun v_29 =>
  bnd (ref01_taken64_l3 K K p_1 p_3 w_5 v_22 v_23 v_24 v_25 v_26 v_27 v_28 v_29 0 w_21.drew.drew) fun y_32 w_33 =>
  (ldI .u64 (p_1.add (0 * 1)) w_33).bind fun v_34 =>
  (ldI .u64 (p_1.add (1 * 1)) w_33).bind fun v_35 =>
  (ldI .u64 (p_1.add (2 * 1)) w_33).bind fun v_36 =>
  (ldI .u64 (p_1.add (3 * 1)) w_33).bind fun v_37 =>
  (ldI .u64 (p_1.add (4 * 1)) w_33).bind fun v_38 =>
  (ldI .u64 (p_1.add (5 * 1)) w_33).bind fun v_39 =>
  (ldI .u64 (p_1.add (6 * 1)) w_33).bind fun v_40 =>
  (ldI .u64 (p_1.add (7 * 1)) w_33).bind fun v_41 =>
  (prog.built 81 [(0, (.int .u64 (IntKind.u64.wrap (v_34 + y_32.1)))), (1, (.int .u64 (IntKind.u64.wrap (v_35 + y_32.2.1)))), (2, (.int .u64 (IntKind.u64.wrap (v_36 + y_32.2.2.1)))), (3, (.int .u64 (IntKind.u64.wrap (v_37 + y_32.2.2.2.1)))), (4, (.int .u64 (IntKind.u64.wrap (v_38 + y_32.2.2.2.2.1)))), (5, (.int .u64 (IntKind.u64.wrap (v_39 + y_32.2.2.2.2.2.1)))), (6, (.int .u64 (IntKind.u64.wrap (v_40 + y_32.2.2.2.2.2.2.1)))), (7, (.int .u64 (IntKind.u64.wrap (v_41 + y_32.2.2.2.2.2.2.2.1))))]).bind fun cs_42 =>
  if (cs_42).size = 8 then ((stA p_3 cs_42 w_33).bind fun w_43 =>
  (ldA 8 p_3 w_43).bind fun res_44 =>
  some ((res_44, ()), w_43)) else none
theorem ref01_taken64_l1_ok (K : Nat) (n : Nat) : StmtNOk prog [(1, .sl), (2, .addr), (4, .addr), (5, .addr), (6, .int .i64), (7, .int .i64)] [] [(7, 8), (30, 49)] ((fun n x w => ref01_taken64_l1 K n x.1 x.2.1 x.2.2.1 x.2.2.2.1 x.2.2.2.2.1 x.2.2.2.2.2.1 w) n) (.block 2 (.loop (cd (bodyOf f47) [1, 1, 0, 1, 0, 0, 1, 0, 0, 1, 0, 0]))) :=
    mk_loopN (O := tabL []) (root := (bodyOf f47)) (π := [1, 1, 0, 1, 0, 0, 1, 0, 0, 1, 0, 0]) (id := 2) (Li := [(1, .sl), (2, .addr), (4, .addr), (5, .addr), (6, .int .i64), (7, .int .i64)]) (Lo := []) (S := (fun n x w => ref01_taken64_l1 K n x.1 x.2.1 x.2.2.1 x.2.2.2.1 x.2.2.2.2.1 x.2.2.2.2.2.1 w)) (body := cd (bodyOf f47) [1, 1, 0, 1, 0, 0, 1, 0, 0, 1, 0, 0]) (ref01_taken64_Eok K) (ref01_taken64_Rok K) rfl (Orc.nil _ _ _) (by kernel_rfl) (fun _ _ => by kernel_rfl) (fun _ _ _ => by kernel_rfl) n
noncomputable def ref01_taken64_l1_se (K : Nat) : SE := stmtN [(1, .sl), (2, .addr), (4, .addr), (5, .addr), (6, .int .i64), (7, .int .i64)] [] [(7, 8), (30, 49)] (fun x w => ref01_taken64_l1 K K x.1 x.2.1 x.2.2.1 x.2.2.2.1 x.2.2.2.2.1 x.2.2.2.2.2.1 w)
theorem ref01_taken64_l1_se_ok (K : Nat) (R : Rg) (h : subRB [(7, 8), (30, 49)] R = true) : (ref01_taken64_l1_se K).Ok prog R (.block 2 (.loop (cd (bodyOf f47) [1, 1, 0, 1, 0, 0, 1, 0, 0, 1, 0, 0]))) := stmtN_ok (Li := [(1, .sl), (2, .addr), (4, .addr), (5, .addr), (6, .int .i64), (7, .int .i64)]) (Lo := []) (S := (fun x w => ref01_taken64_l1 K K x.1 x.2.1 x.2.2.1 x.2.2.2.1 x.2.2.2.2.1 x.2.2.2.2.2.1 w)) (ref01_taken64_l1_ok K K) (subR_of h)
theorem ref01_taken64_l0_ok (K : Nat) (n : Nat) : StmtNOk prog [(1, .sl), (2, .addr), (4, .addr), (5, .addr), (6, .int .i64)] [] [(6, 8), (26, 49)] ((fun n x w => ref01_taken64_l0 K n x.1 x.2.1 x.2.2.1 x.2.2.2.1 x.2.2.2.2.1 w) n) (.block 0 (.loop (cd (bodyOf f47) [1, 1, 0, 1, 0, 0]))) :=
    mk_loopN (O := tabL [([1, 1, 0, 1, 0, 0, 1, 0, 0, 1], ref01_taken64_l1_se K)]) (root := (bodyOf f47)) (π := [1, 1, 0, 1, 0, 0]) (id := 0) (Li := [(1, .sl), (2, .addr), (4, .addr), (5, .addr), (6, .int .i64)]) (Lo := []) (S := (fun n x w => ref01_taken64_l0 K n x.1 x.2.1 x.2.2.1 x.2.2.2.1 x.2.2.2.2.1 w)) (body := cd (bodyOf f47) [1, 1, 0, 1, 0, 0]) (ref01_taken64_Eok K) (ref01_taken64_Rok K) rfl (Orc.cons (by kernel_rfl) (ref01_taken64_l1_se_ok K [(6, 8), (26, 49)] (by kernel_rfl)) (Orc.nil _ _ _)) (by kernel_rfl) (fun _ _ => by kernel_rfl) (fun _ _ _ => by kernel_rfl) n
noncomputable def ref01_taken64_l0_se (K : Nat) : SE := stmtN [(1, .sl), (2, .addr), (4, .addr), (5, .addr), (6, .int .i64)] [] [(6, 8), (26, 49)] (fun x w => ref01_taken64_l0 K K x.1 x.2.1 x.2.2.1 x.2.2.2.1 x.2.2.2.2.1 w)
theorem ref01_taken64_l0_se_ok (K : Nat) (R : Rg) (h : subRB [(6, 8), (26, 49)] R = true) : (ref01_taken64_l0_se K).Ok prog R (.block 0 (.loop (cd (bodyOf f47) [1, 1, 0, 1, 0, 0]))) := stmtN_ok (Li := [(1, .sl), (2, .addr), (4, .addr), (5, .addr), (6, .int .i64)]) (Lo := []) (S := (fun x w => ref01_taken64_l0 K K x.1 x.2.1 x.2.2.1 x.2.2.2.1 x.2.2.2.2.1 w)) (ref01_taken64_l0_ok K K) (subR_of h)
theorem ref01_taken64_l2_ok (K : Nat) (n : Nat) : StmtNOk prog [(2, .addr), (4, .addr), (5, .addr), (8, .int .i64)] [] [(8, 13), (49, 104)] ((fun n x w => ref01_taken64_l2 K n x.1 x.2.1 x.2.2.1 x.2.2.2.1 w) n) (.block 4 (.loop (cd (bodyOf f47) [1, 1, 1, 0, 1, 0, 0]))) :=
    mk_loopN (O := tabL []) (root := (bodyOf f47)) (π := [1, 1, 1, 0, 1, 0, 0]) (id := 4) (Li := [(2, .addr), (4, .addr), (5, .addr), (8, .int .i64)]) (Lo := []) (S := (fun n x w => ref01_taken64_l2 K n x.1 x.2.1 x.2.2.1 x.2.2.2.1 w)) (body := cd (bodyOf f47) [1, 1, 1, 0, 1, 0, 0]) (ref01_taken64_Eok K) (ref01_taken64_Rok K) rfl (Orc.nil _ _ _) (by kernel_rfl) (fun _ _ => by kernel_rfl) (fun _ _ _ => by kernel_rfl) n
noncomputable def ref01_taken64_l2_se (K : Nat) : SE := stmtN [(2, .addr), (4, .addr), (5, .addr), (8, .int .i64)] [] [(8, 13), (49, 104)] (fun x w => ref01_taken64_l2 K K x.1 x.2.1 x.2.2.1 x.2.2.2.1 w)
theorem ref01_taken64_l2_se_ok (K : Nat) (R : Rg) (h : subRB [(8, 13), (49, 104)] R = true) : (ref01_taken64_l2_se K).Ok prog R (.block 4 (.loop (cd (bodyOf f47) [1, 1, 1, 0, 1, 0, 0]))) := stmtN_ok (Li := [(2, .addr), (4, .addr), (5, .addr), (8, .int .i64)]) (Lo := []) (S := (fun x w => ref01_taken64_l2 K K x.1 x.2.1 x.2.2.1 x.2.2.2.1 w)) (ref01_taken64_l2_ok K K) (subR_of h)
theorem ref01_taken64_l3_ok (K : Nat) (n : Nat) : StmtNOk prog [(2, .addr), (4, .addr), (5, .addr), (13, .int .u64), (14, .int .u64), (15, .int .u64), (16, .int .u64), (17, .int .u64), (18, .int .u64), (19, .int .u64), (20, .int .u64), (21, .int .i64)] [(13, .int .u64), (14, .int .u64), (15, .int .u64), (16, .int .u64), (17, .int .u64), (18, .int .u64), (19, .int .u64), (20, .int .u64)] [(13, 26), (120, 203)] ((fun n x w => ref01_taken64_l3 K n x.1 x.2.1 x.2.2.1 x.2.2.2.1 x.2.2.2.2.1 x.2.2.2.2.2.1 x.2.2.2.2.2.2.1 x.2.2.2.2.2.2.2.1 x.2.2.2.2.2.2.2.2.1 x.2.2.2.2.2.2.2.2.2.1 x.2.2.2.2.2.2.2.2.2.2.1 x.2.2.2.2.2.2.2.2.2.2.2.1 w) n) (.block 6 (.loop (cd (bodyOf f47) [1, 1, 1, 1, 1, 1, 0, 1, 0, 0]))) :=
    mk_loopN (O := tabL []) (root := (bodyOf f47)) (π := [1, 1, 1, 1, 1, 1, 0, 1, 0, 0]) (id := 6) (Li := [(2, .addr), (4, .addr), (5, .addr), (13, .int .u64), (14, .int .u64), (15, .int .u64), (16, .int .u64), (17, .int .u64), (18, .int .u64), (19, .int .u64), (20, .int .u64), (21, .int .i64)]) (Lo := [(13, .int .u64), (14, .int .u64), (15, .int .u64), (16, .int .u64), (17, .int .u64), (18, .int .u64), (19, .int .u64), (20, .int .u64)]) (S := (fun n x w => ref01_taken64_l3 K n x.1 x.2.1 x.2.2.1 x.2.2.2.1 x.2.2.2.2.1 x.2.2.2.2.2.1 x.2.2.2.2.2.2.1 x.2.2.2.2.2.2.2.1 x.2.2.2.2.2.2.2.2.1 x.2.2.2.2.2.2.2.2.2.1 x.2.2.2.2.2.2.2.2.2.2.1 x.2.2.2.2.2.2.2.2.2.2.2.1 w)) (body := cd (bodyOf f47) [1, 1, 1, 1, 1, 1, 0, 1, 0, 0]) (ref01_taken64_Eok K) (ref01_taken64_Rok K) rfl (Orc.nil _ _ _) (by kernel_rfl) (fun _ _ => by kernel_rfl) (fun _ _ _ => by kernel_rfl) n
noncomputable def ref01_taken64_l3_se (K : Nat) : SE := stmtN [(2, .addr), (4, .addr), (5, .addr), (13, .int .u64), (14, .int .u64), (15, .int .u64), (16, .int .u64), (17, .int .u64), (18, .int .u64), (19, .int .u64), (20, .int .u64), (21, .int .i64)] [(13, .int .u64), (14, .int .u64), (15, .int .u64), (16, .int .u64), (17, .int .u64), (18, .int .u64), (19, .int .u64), (20, .int .u64)] [(13, 26), (120, 203)] (fun x w => ref01_taken64_l3 K K x.1 x.2.1 x.2.2.1 x.2.2.2.1 x.2.2.2.2.1 x.2.2.2.2.2.1 x.2.2.2.2.2.2.1 x.2.2.2.2.2.2.2.1 x.2.2.2.2.2.2.2.2.1 x.2.2.2.2.2.2.2.2.2.1 x.2.2.2.2.2.2.2.2.2.2.1 x.2.2.2.2.2.2.2.2.2.2.2.1 w)
theorem ref01_taken64_l3_se_ok (K : Nat) (R : Rg) (h : subRB [(13, 26), (120, 203)] R = true) : (ref01_taken64_l3_se K).Ok prog R (.block 6 (.loop (cd (bodyOf f47) [1, 1, 1, 1, 1, 1, 0, 1, 0, 0]))) := stmtN_ok (Li := [(2, .addr), (4, .addr), (5, .addr), (13, .int .u64), (14, .int .u64), (15, .int .u64), (16, .int .u64), (17, .int .u64), (18, .int .u64), (19, .int .u64), (20, .int .u64), (21, .int .i64)]) (Lo := [(13, .int .u64), (14, .int .u64), (15, .int .u64), (16, .int .u64), (17, .int .u64), (18, .int .u64), (19, .int .u64), (20, .int .u64)]) (S := (fun x w => ref01_taken64_l3 K K x.1 x.2.1 x.2.2.1 x.2.2.2.1 x.2.2.2.2.1 x.2.2.2.2.2.1 x.2.2.2.2.2.2.1 x.2.2.2.2.2.2.2.1 x.2.2.2.2.2.2.2.2.1 x.2.2.2.2.2.2.2.2.2.1 x.2.2.2.2.2.2.2.2.2.2.1 x.2.2.2.2.2.2.2.2.2.2.2.1 w)) (ref01_taken64_l3_ok K K) (subR_of h)
theorem ref01_taken64_facts : FunFacts prog 47 f47 (bodyOf f47) [(0, .agg), (1, .sl)] [(0, 236)] := ⟨func47, by kernel_rfl, by kernel_rfl, by kernel_rfl, by kernel_rfl, by kernel_rfl⟩
theorem ref01_taken64_calls (K : Nat) (x : TT [(0, .agg), (1, .sl)]) (w : World) (y : TR [.agg]) (w2 : World) (h : ref01_taken64 K x.1 x.2.1 w = some (y, w2)) : Calls prog 47 (encA [(0, .agg), (1, .sl)] x).toArray w (fun e w3 => e = .returned (resV (encR [.agg] y)) ∧ w3 = w2) :=
    mk_fun (O := tabL [([1, 1, 0, 1], ref01_taken64_l0_se K), ([1, 1, 0, 1, 0, 0, 1, 0, 0, 1], ref01_taken64_l1_se K), ([1, 1, 1, 0, 1], ref01_taken64_l2_se K), ([1, 1, 1, 1, 1, 1, 0, 1], ref01_taken64_l3_se K)]) (Lp := [(0, .agg), (1, .sl)]) (Rt := [.agg]) (S := (fun x w => ref01_taken64 K x.1 x.2.1 w)) (ref01_taken64_Eok K) (ref01_taken64_Rok K) rfl ref01_taken64_facts (Orc.cons (by kernel_rfl) (ref01_taken64_l0_se_ok K [(0, 236)] (by kernel_rfl)) (Orc.cons (by kernel_rfl) (ref01_taken64_l1_se_ok K [(0, 236)] (by kernel_rfl)) (Orc.cons (by kernel_rfl) (ref01_taken64_l2_se_ok K [(0, 236)] (by kernel_rfl)) (Orc.cons (by kernel_rfl) (ref01_taken64_l3_se_ok K [(0, 236)] (by kernel_rfl)) (Orc.nil _ _ _))))) (fun _ _ => by kernel_rfl) x w y w2 h
noncomputable def ref01_taken64_ce (K : Nat) : CE := funE [(0, .agg), (1, .sl)] [.agg] (fun x w => ref01_taken64 K x.1 x.2.1 w)
theorem ref01_taken64_ok (K : Nat) : (ref01_taken64_ce K).Ok prog 47 := funE_ok (Rt := [.agg]) (S := (fun x w => ref01_taken64 K x.1 x.2.1 w)) ref01_taken64_facts fun x w y w2 h => ref01_taken64_calls K x w y w2 h

noncomputable def ref01_Sum_E (K : Nat) : List (Nat × CE) := [(44, ref01_first_ce K), (45, ref01_laid_ce K), (46, ref01_narrow_ce K), (47, ref01_taken64_ce K)]
theorem ref01_Sum_Eok (K : Nat) : Env.Ok prog (tab (ref01_Sum_E K)) := (Env.cons (ref01_first_ok K) (Env.cons (ref01_laid_ok K) (Env.cons (ref01_narrow_ok K) (Env.cons (ref01_taken64_ok K) (Env.nil _)))))
noncomputable def ref01_Sum_R (K : Nat) : List (Nat × RE) := [(36, ref01_Block_re), (32, ref01_Size_re)]
theorem ref01_Sum_Rok (K : Nat) : REnv.Ok prog (tab (ref01_Sum_R K)) := (REnv.cons (ref01_Block_ok) (REnv.cons (ref01_Size_ok) (REnv.nil _)))
noncomputable def ref01_Sum_l1_b (K : Nat) (rec : Addr → Sl → Int → World → Option ((Unit) × World)) (h6 : Addr) (p7 : Sl) (i9 : Int) (w : World) : Option ((Unit) × World) :=
  if (decide (i9 < ((p7.len : Nat) : Int))) = true then (if (0 : Int) ≤ (IntKind.i64.wrap (i9 + 128)) ∧ (IntKind.i64.wrap (i9 + 128)) ≤ ((p7.cap : Nat) : Int) then (if (0 : Int) ≤ i9 ∧ i9 ≤ (((Int.toNat ((IntKind.i64.wrap (i9 + 128)))) : Nat) : Int) then ((ldA 8 h6 w.drew).bind fun v_13 =>
  bnd (ref01_taken64 K v_13 ⟨(sla p7.a (Int.toNat (i9)) p7.cap 1), ((Int.toNat ((IntKind.i64.wrap (i9 + 128)))) - (Int.toNat (i9))), (p7.cap - (Int.toNat (i9)))⟩ w.drew) fun r_14 w_15 =>
  if (r_14.1).size = 8 then ((stA h6 r_14.1 w_15).bind fun w_16 =>
  rec h6 p7 (IntKind.i64.wrap (i9 + 128)) w_16) else none) else none) else none) else (some ((), w))
noncomputable def ref01_Sum_l1 (K : Nat) (n : Nat) : Addr → Sl → Int → World → Option ((Unit) × World) := iter (fun _ _ _ _ => none) (ref01_Sum_l1_b K) n
noncomputable def ref01_Sum_s0 (K : Nat) (h6 : Addr) (p7 : Sl) (a25 : Bool) (w : World) : Option ((Unit) × World) :=
  if a25 = true then ((ldA 8 h6 w).bind fun v_9 =>
  bnd (ref01_narrow K v_9 p7 w) fun r_10 w_11 =>
  if (r_10.1).size = 8 then ((stA h6 r_10.1 w_11).bind fun w_12 =>
  some ((), w_12)) else none) else (bnd (ref01_Sum_l1 K K h6 p7 0 w) fun y_17 w_18 =>
  some ((), w_18))
noncomputable def ref01_Sum_s4 (K : Nat) (hash0 : Int) (out10 : Sl) (j12 : Int) (w : World) : Option ((Bool × Unit) × World) :=
  if (decide (j12 ≥ 0)) = true then ((ref01_Size hash0).bind fun r_22 =>
  some (((decide (((out10.len : Nat) : Int) < r_22.1)), ()), w)) else (some ((false, ()), w))
noncomputable def ref01_Sum_l3_b (K : Nat) (rec : Int → Addr → Int → Sl → Int → Int → World → Option ((Sl × Unit) × World)) (hash0 : Int) (h6 : Addr) (n8 : Int) (out10 : Sl) (i11 : Int) (j12 : Int) (w : World) : Option ((Sl × Unit) × World) :=
  bnd (ref01_Sum_s4 K hash0 out10 j12 w) fun y_23 w_24 =>
  if y_23.1 = true then (if (0 : Int) ≤ i11 ∧ i11 < ((8 : Nat) : Int) then ((ldI .u64 (h6.add ((Int.toNat i11) * 1)) w_24).bind fun v_25 =>
  if (0 : Int) ≤ (IntKind.u64.wrap (IntKind.i64.wrap (8 * j12))) then (bnd (bldS prog 22 1 #[(0, (.int .u8 (IntKind.u8.wrap (Int.fdiv v_25 (2 ^ (min (Int.toNat (IntKind.u64.wrap (IntKind.i64.wrap (8 * j12)))) IntKind.u64.bits))))))] w_24) fun s_26 w_27 =>
  bnd (apd prog 22 22 (.slice out10.a out10.len out10.cap) (.slice s_26.a s_26.len s_26.cap) w_27) fun s_28 w_29 =>
  rec hash0 h6 n8 s_28 i11 (IntKind.i64.wrap (j12 - 1)) w_29) else none) else none) else (some ((out10, ()), w_24))
noncomputable def ref01_Sum_l3 (K : Nat) (n : Nat) : Int → Addr → Int → Sl → Int → Int → World → Option ((Sl × Unit) × World) := iter (fun _ _ _ _ _ _ _ => none) (ref01_Sum_l3_b K) n
noncomputable def ref01_Sum_l2_b (K : Nat) (rec : Int → Addr → Int → Sl → Int → World → Option ((Sl × Unit) × World)) (hash0 : Int) (h6 : Addr) (n8 : Int) (out10 : Sl) (i11 : Int) (w : World) : Option ((Sl × Unit) × World) :=
  (ref01_Size hash0).bind fun r_21 =>
  if (decide (((out10.len : Nat) : Int) < r_21.1)) = true then (bnd (ref01_Sum_l3 K K hash0 h6 n8 out10 i11 (IntKind.i64.wrap (n8 - 1)) w) fun y_30 w_31 =>
  rec hash0 h6 n8 y_30.1 (IntKind.i64.wrap (i11 + 1)) w_31) else (some ((out10, ()), w))
noncomputable def ref01_Sum_l2 (K : Nat) (n : Nat) : Int → Addr → Int → Sl → Int → World → Option ((Sl × Unit) × World) := iter (fun _ _ _ _ _ _ => none) (ref01_Sum_l2_b K) n
/-- coffer/cofferref01.Sum -/
noncomputable def ref01_Sum (K : Nat) (hash0 : Int) (b1 : Sl) (w : World) : Option ((Sl × Unit) × World) :=
  (ref01_Block hash0).bind fun r_1 =>
  if (r_1.1 == 0) = true then (some ((⟨none, 0, 0⟩, ()), w)) else (bnd (ref01_first K hash0 w) fun r_2 w_3 =>
  bnd (newB z81 81 w_3) fun h_4 w_5 =>
  if (r_2.1).size = 8 then ((stA h_4 r_2.1 w_5).bind fun w_6 =>
  bnd (ref01_laid K b1 r_1.1 w_6) fun r_7 w_8 =>
  bnd (ref01_Sum_s0 K h_4 r_7.1 ((IntKind.i64.wrap (Int.tdiv r_1.1 16)) == 4) w_8) fun y_19 w_20 =>
  bnd (ref01_Sum_l2 K K hash0 h_4 (IntKind.i64.wrap (Int.tdiv r_1.1 16)) ⟨none, 0, 0⟩ 0 w_20) fun y_32 w_33 =>
  some ((y_32.1, ()), w_33)) else none)
theorem ref01_Sum_l1_ok (K : Nat) (n : Nat) : StmtNOk prog [(6, .addr), (7, .sl), (9, .int .i64)] [] [(9, 10), (29, 42)] ((fun n x w => ref01_Sum_l1 K n x.1 x.2.1 x.2.2.1 w) n) (.block 0 (.loop (cd (bodyOf f37) [1, 1, 1, 1, 1, 1, 0, 1, 1, 1, 0, 0]))) :=
    mk_loopN (O := tabL []) (root := (bodyOf f37)) (π := [1, 1, 1, 1, 1, 1, 0, 1, 1, 1, 0, 0]) (id := 0) (Li := [(6, .addr), (7, .sl), (9, .int .i64)]) (Lo := []) (S := (fun n x w => ref01_Sum_l1 K n x.1 x.2.1 x.2.2.1 w)) (body := cd (bodyOf f37) [1, 1, 1, 1, 1, 1, 0, 1, 1, 1, 0, 0]) (ref01_Sum_Eok K) (ref01_Sum_Rok K) rfl (Orc.nil _ _ _) (by kernel_rfl) (fun _ _ => by kernel_rfl) (fun _ _ _ => by kernel_rfl) n
noncomputable def ref01_Sum_l1_se (K : Nat) : SE := stmtN [(6, .addr), (7, .sl), (9, .int .i64)] [] [(9, 10), (29, 42)] (fun x w => ref01_Sum_l1 K K x.1 x.2.1 x.2.2.1 w)
theorem ref01_Sum_l1_se_ok (K : Nat) (R : Rg) (h : subRB [(9, 10), (29, 42)] R = true) : (ref01_Sum_l1_se K).Ok prog R (.block 0 (.loop (cd (bodyOf f37) [1, 1, 1, 1, 1, 1, 0, 1, 1, 1, 0, 0]))) := stmtN_ok (Li := [(6, .addr), (7, .sl), (9, .int .i64)]) (Lo := []) (S := (fun x w => ref01_Sum_l1 K K x.1 x.2.1 x.2.2.1 w)) (ref01_Sum_l1_ok K K) (subR_of h)
theorem ref01_Sum_s0_ok (K : Nat) : StmtNOk prog [(6, .addr), (7, .sl), (25, .bool)] [] [(9, 10), (26, 42)] (fun x w => ref01_Sum_s0 K x.1 x.2.1 x.2.2.1 w) (cd (bodyOf f37) [1, 1, 1, 1, 1, 1, 0, 1]) :=
    mk_stmtN (O := tabL [([1, 1, 1, 1, 1, 1, 0, 1, 1, 1], ref01_Sum_l1_se K)]) (root := (bodyOf f37)) (π := [1, 1, 1, 1, 1, 1, 0, 1]) (Li := [(6, .addr), (7, .sl), (25, .bool)]) (Lo := []) (S := (fun x w => ref01_Sum_s0 K x.1 x.2.1 x.2.2.1 w)) (ref01_Sum_Eok K) (ref01_Sum_Rok K) rfl (Orc.cons (by kernel_rfl) (ref01_Sum_l1_se_ok K [(9, 10), (26, 42)] (by kernel_rfl)) (Orc.nil _ _ _)) (by kernel_rfl) (fun _ _ => by kernel_rfl)
noncomputable def ref01_Sum_s0_se (K : Nat) : SE := stmtN [(6, .addr), (7, .sl), (25, .bool)] [] [(9, 10), (26, 42)] (fun x w => ref01_Sum_s0 K x.1 x.2.1 x.2.2.1 w)
theorem ref01_Sum_s0_se_ok (K : Nat) (R : Rg) (h : subRB [(9, 10), (26, 42)] R = true) : (ref01_Sum_s0_se K).Ok prog R (cd (bodyOf f37) [1, 1, 1, 1, 1, 1, 0, 1]) := stmtN_ok (Li := [(6, .addr), (7, .sl), (25, .bool)]) (Lo := []) (S := (fun x w => ref01_Sum_s0 K x.1 x.2.1 x.2.2.1 w)) (ref01_Sum_s0_ok K) (subR_of h)
theorem ref01_Sum_s4_ok (K : Nat) : StmtNOk prog [(0, .int .i64), (10, .sl), (12, .int .i64)] [(59, .bool)] [(51, 60)] (fun x w => ref01_Sum_s4 K x.1 x.2.1 x.2.2.1 w) (cd (bodyOf f37) [1, 1, 1, 1, 1, 1, 1, 1, 0, 1, 0, 0, 1, 0, 0, 1, 0, 0, 0, 0]) :=
    mk_stmtN (O := tabL []) (root := (bodyOf f37)) (π := [1, 1, 1, 1, 1, 1, 1, 1, 0, 1, 0, 0, 1, 0, 0, 1, 0, 0, 0, 0]) (Li := [(0, .int .i64), (10, .sl), (12, .int .i64)]) (Lo := [(59, .bool)]) (S := (fun x w => ref01_Sum_s4 K x.1 x.2.1 x.2.2.1 w)) (ref01_Sum_Eok K) (ref01_Sum_Rok K) rfl (Orc.nil _ _ _) (by kernel_rfl) (fun _ _ => by kernel_rfl)
noncomputable def ref01_Sum_s4_se (K : Nat) : SE := stmtN [(0, .int .i64), (10, .sl), (12, .int .i64)] [(59, .bool)] [(51, 60)] (fun x w => ref01_Sum_s4 K x.1 x.2.1 x.2.2.1 w)
theorem ref01_Sum_s4_se_ok (K : Nat) (R : Rg) (h : subRB [(51, 60)] R = true) : (ref01_Sum_s4_se K).Ok prog R (cd (bodyOf f37) [1, 1, 1, 1, 1, 1, 1, 1, 0, 1, 0, 0, 1, 0, 0, 1, 0, 0, 0, 0]) := stmtN_ok (Li := [(0, .int .i64), (10, .sl), (12, .int .i64)]) (Lo := [(59, .bool)]) (S := (fun x w => ref01_Sum_s4 K x.1 x.2.1 x.2.2.1 w)) (ref01_Sum_s4_ok K) (subR_of h)
theorem ref01_Sum_l3_ok (K : Nat) (n : Nat) : StmtNOk prog [(0, .int .i64), (6, .addr), (8, .int .i64), (10, .sl), (11, .int .i64), (12, .int .i64)] [(10, .sl)] [(10, 11), (12, 13), (51, 73)] ((fun n x w => ref01_Sum_l3 K n x.1 x.2.1 x.2.2.1 x.2.2.2.1 x.2.2.2.2.1 x.2.2.2.2.2.1 w) n) (.block 4 (.loop (cd (bodyOf f37) [1, 1, 1, 1, 1, 1, 1, 1, 0, 1, 0, 0, 1, 0, 0, 1, 0, 0]))) :=
    mk_loopN (O := tabL [([1, 1, 1, 1, 1, 1, 1, 1, 0, 1, 0, 0, 1, 0, 0, 1, 0, 0, 0, 0], ref01_Sum_s4_se K)]) (root := (bodyOf f37)) (π := [1, 1, 1, 1, 1, 1, 1, 1, 0, 1, 0, 0, 1, 0, 0, 1, 0, 0]) (id := 4) (Li := [(0, .int .i64), (6, .addr), (8, .int .i64), (10, .sl), (11, .int .i64), (12, .int .i64)]) (Lo := [(10, .sl)]) (S := (fun n x w => ref01_Sum_l3 K n x.1 x.2.1 x.2.2.1 x.2.2.2.1 x.2.2.2.2.1 x.2.2.2.2.2.1 w)) (body := cd (bodyOf f37) [1, 1, 1, 1, 1, 1, 1, 1, 0, 1, 0, 0, 1, 0, 0, 1, 0, 0]) (ref01_Sum_Eok K) (ref01_Sum_Rok K) rfl (Orc.cons (by kernel_rfl) (ref01_Sum_s4_se_ok K [(10, 11), (12, 13), (51, 73)] (by kernel_rfl)) (Orc.nil _ _ _)) (by kernel_rfl) (fun _ _ => by kernel_rfl) (fun _ _ _ => by kernel_rfl) n
noncomputable def ref01_Sum_l3_se (K : Nat) : SE := stmtN [(0, .int .i64), (6, .addr), (8, .int .i64), (10, .sl), (11, .int .i64), (12, .int .i64)] [(10, .sl)] [(10, 11), (12, 13), (51, 73)] (fun x w => ref01_Sum_l3 K K x.1 x.2.1 x.2.2.1 x.2.2.2.1 x.2.2.2.2.1 x.2.2.2.2.2.1 w)
theorem ref01_Sum_l3_se_ok (K : Nat) (R : Rg) (h : subRB [(10, 11), (12, 13), (51, 73)] R = true) : (ref01_Sum_l3_se K).Ok prog R (.block 4 (.loop (cd (bodyOf f37) [1, 1, 1, 1, 1, 1, 1, 1, 0, 1, 0, 0, 1, 0, 0, 1, 0, 0]))) := stmtN_ok (Li := [(0, .int .i64), (6, .addr), (8, .int .i64), (10, .sl), (11, .int .i64), (12, .int .i64)]) (Lo := [(10, .sl)]) (S := (fun x w => ref01_Sum_l3 K K x.1 x.2.1 x.2.2.1 x.2.2.2.1 x.2.2.2.2.1 x.2.2.2.2.2.1 w)) (ref01_Sum_l3_ok K K) (subR_of h)
theorem ref01_Sum_l2_ok (K : Nat) (n : Nat) : StmtNOk prog [(0, .int .i64), (6, .addr), (8, .int .i64), (10, .sl), (11, .int .i64)] [(10, .sl)] [(10, 13), (42, 73)] ((fun n x w => ref01_Sum_l2 K n x.1 x.2.1 x.2.2.1 x.2.2.2.1 x.2.2.2.2.1 w) n) (.block 2 (.loop (cd (bodyOf f37) [1, 1, 1, 1, 1, 1, 1, 1, 0, 1, 0, 0]))) :=
    mk_loopN (O := tabL [([1, 1, 1, 1, 1, 1, 1, 1, 0, 1, 0, 0, 1, 0, 0, 1], ref01_Sum_l3_se K), ([1, 1, 1, 1, 1, 1, 1, 1, 0, 1, 0, 0, 1, 0, 0, 1, 0, 0, 0, 0], ref01_Sum_s4_se K)]) (root := (bodyOf f37)) (π := [1, 1, 1, 1, 1, 1, 1, 1, 0, 1, 0, 0]) (id := 2) (Li := [(0, .int .i64), (6, .addr), (8, .int .i64), (10, .sl), (11, .int .i64)]) (Lo := [(10, .sl)]) (S := (fun n x w => ref01_Sum_l2 K n x.1 x.2.1 x.2.2.1 x.2.2.2.1 x.2.2.2.2.1 w)) (body := cd (bodyOf f37) [1, 1, 1, 1, 1, 1, 1, 1, 0, 1, 0, 0]) (ref01_Sum_Eok K) (ref01_Sum_Rok K) rfl (Orc.cons (by kernel_rfl) (ref01_Sum_l3_se_ok K [(10, 13), (42, 73)] (by kernel_rfl)) (Orc.cons (by kernel_rfl) (ref01_Sum_s4_se_ok K [(10, 13), (42, 73)] (by kernel_rfl)) (Orc.nil _ _ _))) (by kernel_rfl) (fun _ _ => by kernel_rfl) (fun _ _ _ => by kernel_rfl) n
noncomputable def ref01_Sum_l2_se (K : Nat) : SE := stmtN [(0, .int .i64), (6, .addr), (8, .int .i64), (10, .sl), (11, .int .i64)] [(10, .sl)] [(10, 13), (42, 73)] (fun x w => ref01_Sum_l2 K K x.1 x.2.1 x.2.2.1 x.2.2.2.1 x.2.2.2.2.1 w)
theorem ref01_Sum_l2_se_ok (K : Nat) (R : Rg) (h : subRB [(10, 13), (42, 73)] R = true) : (ref01_Sum_l2_se K).Ok prog R (.block 2 (.loop (cd (bodyOf f37) [1, 1, 1, 1, 1, 1, 1, 1, 0, 1, 0, 0]))) := stmtN_ok (Li := [(0, .int .i64), (6, .addr), (8, .int .i64), (10, .sl), (11, .int .i64)]) (Lo := [(10, .sl)]) (S := (fun x w => ref01_Sum_l2 K K x.1 x.2.1 x.2.2.1 x.2.2.2.1 x.2.2.2.2.1 w)) (ref01_Sum_l2_ok K K) (subR_of h)
theorem ref01_Sum_facts : FunFacts prog 37 f37 (bodyOf f37) [(0, .int .i64), (1, .sl)] [(0, 74)] := ⟨func37, by kernel_rfl, by kernel_rfl, by kernel_rfl, by kernel_rfl, by kernel_rfl⟩
theorem ref01_Sum_calls (K : Nat) (x : TT [(0, .int .i64), (1, .sl)]) (w : World) (y : TR [.sl]) (w2 : World) (h : ref01_Sum K x.1 x.2.1 w = some (y, w2)) : Calls prog 37 (encA [(0, .int .i64), (1, .sl)] x).toArray w (fun e w3 => e = .returned (resV (encR [.sl] y)) ∧ w3 = w2) :=
    mk_fun (O := tabL [([1, 1, 1, 1, 1, 1, 0, 1], ref01_Sum_s0_se K), ([1, 1, 1, 1, 1, 1, 0, 1, 1, 1], ref01_Sum_l1_se K), ([1, 1, 1, 1, 1, 1, 1, 1, 0, 1], ref01_Sum_l2_se K), ([1, 1, 1, 1, 1, 1, 1, 1, 0, 1, 0, 0, 1, 0, 0, 1], ref01_Sum_l3_se K), ([1, 1, 1, 1, 1, 1, 1, 1, 0, 1, 0, 0, 1, 0, 0, 1, 0, 0, 0, 0], ref01_Sum_s4_se K)]) (Lp := [(0, .int .i64), (1, .sl)]) (Rt := [.sl]) (S := (fun x w => ref01_Sum K x.1 x.2.1 w)) (ref01_Sum_Eok K) (ref01_Sum_Rok K) rfl ref01_Sum_facts (Orc.cons (by kernel_rfl) (ref01_Sum_s0_se_ok K [(0, 74)] (by kernel_rfl)) (Orc.cons (by kernel_rfl) (ref01_Sum_l1_se_ok K [(0, 74)] (by kernel_rfl)) (Orc.cons (by kernel_rfl) (ref01_Sum_l2_se_ok K [(0, 74)] (by kernel_rfl)) (Orc.cons (by kernel_rfl) (ref01_Sum_l3_se_ok K [(0, 74)] (by kernel_rfl)) (Orc.cons (by kernel_rfl) (ref01_Sum_s4_se_ok K [(0, 74)] (by kernel_rfl)) (Orc.nil _ _ _)))))) (fun _ _ => by kernel_rfl) x w y w2 h
noncomputable def ref01_Sum_ce (K : Nat) : CE := funE [(0, .int .i64), (1, .sl)] [.sl] (fun x w => ref01_Sum K x.1 x.2.1 w)
theorem ref01_Sum_ok (K : Nat) : (ref01_Sum_ce K).Ok prog 37 := funE_ok (Rt := [.sl]) (S := (fun x w => ref01_Sum K x.1 x.2.1 w)) ref01_Sum_facts fun x w y w2 h => ref01_Sum_calls K x w y w2 h

noncomputable def ref01_Code_E (K : Nat) : List (Nat × CE) := [(37, ref01_Sum_ce K)]
theorem ref01_Code_Eok (K : Nat) : Env.Ok prog (tab (ref01_Code_E K)) := (Env.cons (ref01_Sum_ok K) (Env.nil _))
noncomputable def ref01_Code_R (K : Nat) : List (Nat × RE) := [(36, ref01_Block_re)]
theorem ref01_Code_Rok (K : Nat) : REnv.Ok prog (tab (ref01_Code_R K)) := (REnv.cons (ref01_Block_ok) (REnv.nil _))
noncomputable def ref01_Code_s0 (K : Nat) (hash0 : Int) (key1 : Sl) (k8 : Sl) (a22 : Bool) (w : World) : Option ((Sl × Unit) × World) :=
  if a22 = true then (bnd (ref01_Sum K hash0 key1 w) fun r_2 w_3 =>
  some ((r_2.1, ()), w_3)) else (some ((k8, ()), w))
noncomputable def ref01_Code_s2 (K : Nat) (k8 : Sl) (i11 : Int) (c12 : Int) (a34 : Bool) (w : World) : Option ((Int × Unit) × World) :=
  if a34 = true then ((k8.a).bind fun p_6 =>
  if (0 : Int) ≤ i11 ∧ i11 < ((k8.len : Nat) : Int) then ((ldI .u8 (p_6.add ((Int.toNat i11) * 1)) w).bind fun v_7 =>
  some ((v_7, ()), w)) else none) else (some ((c12, ()), w))
noncomputable def ref01_Code_l1_b (K : Nat) (rec : Int → Sl → Int → Sl → Sl → Sl → Int → World → Option ((Sl × Sl × Unit) × World)) (hash0 : Int) (b2 : Sl) (block7 : Int) (k8 : Sl) (in9 : Sl) (out10 : Sl) (i11 : Int) (w : World) : Option ((Sl × Sl × Unit) × World) :=
  if (decide (i11 < block7)) = true then (bnd (ref01_Code_s2 K k8 i11 0 (decide (i11 < ((k8.len : Nat) : Int))) w) fun y_8 w_9 =>
  bnd (bldS prog 22 1 #[(0, (.int .u8 (bits .xor .u8 y_8.1 54)))] w_9) fun s_10 w_11 =>
  bnd (apd prog 22 22 (.slice in9.a in9.len in9.cap) (.slice s_10.a s_10.len s_10.cap) w_11) fun s_12 w_13 =>
  bnd (bldS prog 22 1 #[(0, (.int .u8 (bits .xor .u8 y_8.1 92)))] w_13) fun s_14 w_15 =>
  bnd (apd prog 22 22 (.slice out10.a out10.len out10.cap) (.slice s_14.a s_14.len s_14.cap) w_15) fun s_16 w_17 =>
  rec hash0 b2 block7 k8 s_12 s_16 (IntKind.i64.wrap (i11 + 1)) w_17) else (some ((in9, out10, ()), w))
noncomputable def ref01_Code_l1 (K : Nat) (n : Nat) : Int → Sl → Int → Sl → Sl → Sl → Int → World → Option ((Sl × Sl × Unit) × World) := iter (fun _ _ _ _ _ _ _ _ => none) (ref01_Code_l1_b K) n
/-- coffer/cofferref01.Code -/
noncomputable def ref01_Code (K : Nat) (hash0 : Int) (key1 : Sl) (b2 : Sl) (w : World) : Option ((Sl × Unit) × World) :=
  (ref01_Block hash0).bind fun r_1 =>
  if (r_1.1 == 0) = true then (some ((⟨none, 0, 0⟩, ()), w)) else (bnd (ref01_Code_s0 K hash0 key1 key1 (decide (((key1.len : Nat) : Int) > r_1.1)) w) fun y_4 w_5 =>
  bnd (ref01_Code_l1 K K hash0 b2 r_1.1 y_4.1 ⟨none, 0, 0⟩ ⟨none, 0, 0⟩ 0 w_5) fun y_18 w_19 =>
  bnd (apd prog 22 22 (.slice y_18.1.a y_18.1.len y_18.1.cap) (.slice b2.a b2.len b2.cap) w_19) fun s_20 w_21 =>
  bnd (ref01_Sum K hash0 s_20 w_21) fun r_22 w_23 =>
  bnd (apd prog 22 22 (.slice y_18.2.1.a y_18.2.1.len y_18.2.1.cap) (.slice r_22.1.a r_22.1.len r_22.1.cap) w_23) fun s_24 w_25 =>
  bnd (ref01_Sum K hash0 s_24 w_25) fun r_26 w_27 =>
  some ((r_26.1, ()), w_27))
theorem ref01_Code_s0_ok (K : Nat) : StmtNOk prog [(0, .int .i64), (1, .sl), (8, .sl), (22, .bool)] [(8, .sl)] [(8, 9), (23, 26)] (fun x w => ref01_Code_s0 K x.1 x.2.1 x.2.2.1 x.2.2.2.1 w) (cd (bodyOf f28) [1, 1, 1, 1, 0, 1]) :=
    mk_stmtN (O := tabL []) (root := (bodyOf f28)) (π := [1, 1, 1, 1, 0, 1]) (Li := [(0, .int .i64), (1, .sl), (8, .sl), (22, .bool)]) (Lo := [(8, .sl)]) (S := (fun x w => ref01_Code_s0 K x.1 x.2.1 x.2.2.1 x.2.2.2.1 w)) (ref01_Code_Eok K) (ref01_Code_Rok K) rfl (Orc.nil _ _ _) (by kernel_rfl) (fun _ _ => by kernel_rfl)
noncomputable def ref01_Code_s0_se (K : Nat) : SE := stmtN [(0, .int .i64), (1, .sl), (8, .sl), (22, .bool)] [(8, .sl)] [(8, 9), (23, 26)] (fun x w => ref01_Code_s0 K x.1 x.2.1 x.2.2.1 x.2.2.2.1 w)
theorem ref01_Code_s0_se_ok (K : Nat) (R : Rg) (h : subRB [(8, 9), (23, 26)] R = true) : (ref01_Code_s0_se K).Ok prog R (cd (bodyOf f28) [1, 1, 1, 1, 0, 1]) := stmtN_ok (Li := [(0, .int .i64), (1, .sl), (8, .sl), (22, .bool)]) (Lo := [(8, .sl)]) (S := (fun x w => ref01_Code_s0 K x.1 x.2.1 x.2.2.1 x.2.2.2.1 w)) (ref01_Code_s0_ok K) (subR_of h)
theorem ref01_Code_s2_ok (K : Nat) : StmtNOk prog [(8, .sl), (11, .int .i64), (12, .int .u8), (34, .bool)] [(12, .int .u8)] [(12, 13), (35, 39)] (fun x w => ref01_Code_s2 K x.1 x.2.1 x.2.2.1 x.2.2.2.1 w) (cd (bodyOf f28) [1, 1, 1, 1, 1, 1, 1, 0, 1, 0, 0, 1, 0, 0, 1, 0, 1]) :=
    mk_stmtN (O := tabL []) (root := (bodyOf f28)) (π := [1, 1, 1, 1, 1, 1, 1, 0, 1, 0, 0, 1, 0, 0, 1, 0, 1]) (Li := [(8, .sl), (11, .int .i64), (12, .int .u8), (34, .bool)]) (Lo := [(12, .int .u8)]) (S := (fun x w => ref01_Code_s2 K x.1 x.2.1 x.2.2.1 x.2.2.2.1 w)) (ref01_Code_Eok K) (ref01_Code_Rok K) rfl (Orc.nil _ _ _) (by kernel_rfl) (fun _ _ => by kernel_rfl)
noncomputable def ref01_Code_s2_se (K : Nat) : SE := stmtN [(8, .sl), (11, .int .i64), (12, .int .u8), (34, .bool)] [(12, .int .u8)] [(12, 13), (35, 39)] (fun x w => ref01_Code_s2 K x.1 x.2.1 x.2.2.1 x.2.2.2.1 w)
theorem ref01_Code_s2_se_ok (K : Nat) (R : Rg) (h : subRB [(12, 13), (35, 39)] R = true) : (ref01_Code_s2_se K).Ok prog R (cd (bodyOf f28) [1, 1, 1, 1, 1, 1, 1, 0, 1, 0, 0, 1, 0, 0, 1, 0, 1]) := stmtN_ok (Li := [(8, .sl), (11, .int .i64), (12, .int .u8), (34, .bool)]) (Lo := [(12, .int .u8)]) (S := (fun x w => ref01_Code_s2 K x.1 x.2.1 x.2.2.1 x.2.2.2.1 w)) (ref01_Code_s2_ok K) (subR_of h)
theorem ref01_Code_l1_ok (K : Nat) (n : Nat) : StmtNOk prog [(0, .int .i64), (2, .sl), (7, .int .i64), (8, .sl), (9, .sl), (10, .sl), (11, .int .i64)] [(9, .sl), (10, .sl)] [(9, 13), (26, 49)] ((fun n x w => ref01_Code_l1 K n x.1 x.2.1 x.2.2.1 x.2.2.2.1 x.2.2.2.2.1 x.2.2.2.2.2.1 x.2.2.2.2.2.2.1 w) n) (.block 0 (.loop (cd (bodyOf f28) [1, 1, 1, 1, 1, 1, 1, 0, 1, 0, 0]))) :=
    mk_loopN (O := tabL [([1, 1, 1, 1, 1, 1, 1, 0, 1, 0, 0, 1, 0, 0, 1, 0, 1], ref01_Code_s2_se K)]) (root := (bodyOf f28)) (π := [1, 1, 1, 1, 1, 1, 1, 0, 1, 0, 0]) (id := 0) (Li := [(0, .int .i64), (2, .sl), (7, .int .i64), (8, .sl), (9, .sl), (10, .sl), (11, .int .i64)]) (Lo := [(9, .sl), (10, .sl)]) (S := (fun n x w => ref01_Code_l1 K n x.1 x.2.1 x.2.2.1 x.2.2.2.1 x.2.2.2.2.1 x.2.2.2.2.2.1 x.2.2.2.2.2.2.1 w)) (body := cd (bodyOf f28) [1, 1, 1, 1, 1, 1, 1, 0, 1, 0, 0]) (ref01_Code_Eok K) (ref01_Code_Rok K) rfl (Orc.cons (by kernel_rfl) (ref01_Code_s2_se_ok K [(9, 13), (26, 49)] (by kernel_rfl)) (Orc.nil _ _ _)) (by kernel_rfl) (fun _ _ => by kernel_rfl) (fun _ _ _ => by kernel_rfl) n
noncomputable def ref01_Code_l1_se (K : Nat) : SE := stmtN [(0, .int .i64), (2, .sl), (7, .int .i64), (8, .sl), (9, .sl), (10, .sl), (11, .int .i64)] [(9, .sl), (10, .sl)] [(9, 13), (26, 49)] (fun x w => ref01_Code_l1 K K x.1 x.2.1 x.2.2.1 x.2.2.2.1 x.2.2.2.2.1 x.2.2.2.2.2.1 x.2.2.2.2.2.2.1 w)
theorem ref01_Code_l1_se_ok (K : Nat) (R : Rg) (h : subRB [(9, 13), (26, 49)] R = true) : (ref01_Code_l1_se K).Ok prog R (.block 0 (.loop (cd (bodyOf f28) [1, 1, 1, 1, 1, 1, 1, 0, 1, 0, 0]))) := stmtN_ok (Li := [(0, .int .i64), (2, .sl), (7, .int .i64), (8, .sl), (9, .sl), (10, .sl), (11, .int .i64)]) (Lo := [(9, .sl), (10, .sl)]) (S := (fun x w => ref01_Code_l1 K K x.1 x.2.1 x.2.2.1 x.2.2.2.1 x.2.2.2.2.1 x.2.2.2.2.2.1 x.2.2.2.2.2.2.1 w)) (ref01_Code_l1_ok K K) (subR_of h)
theorem ref01_Code_facts : FunFacts prog 28 f28 (bodyOf f28) [(0, .int .i64), (1, .sl), (2, .sl)] [(0, 61)] := ⟨func28, by kernel_rfl, by kernel_rfl, by kernel_rfl, by kernel_rfl, by kernel_rfl⟩
theorem ref01_Code_calls (K : Nat) (x : TT [(0, .int .i64), (1, .sl), (2, .sl)]) (w : World) (y : TR [.sl]) (w2 : World) (h : ref01_Code K x.1 x.2.1 x.2.2.1 w = some (y, w2)) : Calls prog 28 (encA [(0, .int .i64), (1, .sl), (2, .sl)] x).toArray w (fun e w3 => e = .returned (resV (encR [.sl] y)) ∧ w3 = w2) :=
    mk_fun (O := tabL [([1, 1, 1, 1, 0, 1], ref01_Code_s0_se K), ([1, 1, 1, 1, 1, 1, 1, 0, 1], ref01_Code_l1_se K), ([1, 1, 1, 1, 1, 1, 1, 0, 1, 0, 0, 1, 0, 0, 1, 0, 1], ref01_Code_s2_se K)]) (Lp := [(0, .int .i64), (1, .sl), (2, .sl)]) (Rt := [.sl]) (S := (fun x w => ref01_Code K x.1 x.2.1 x.2.2.1 w)) (ref01_Code_Eok K) (ref01_Code_Rok K) rfl ref01_Code_facts (Orc.cons (by kernel_rfl) (ref01_Code_s0_se_ok K [(0, 61)] (by kernel_rfl)) (Orc.cons (by kernel_rfl) (ref01_Code_l1_se_ok K [(0, 61)] (by kernel_rfl)) (Orc.cons (by kernel_rfl) (ref01_Code_s2_se_ok K [(0, 61)] (by kernel_rfl)) (Orc.nil _ _ _)))) (fun _ _ => by kernel_rfl) x w y w2 h
noncomputable def ref01_Code_ce (K : Nat) : CE := funE [(0, .int .i64), (1, .sl), (2, .sl)] [.sl] (fun x w => ref01_Code K x.1 x.2.1 x.2.2.1 w)
theorem ref01_Code_ok (K : Nat) : (ref01_Code_ce K).Ok prog 28 := funE_ok (Rt := [.sl]) (S := (fun x w => ref01_Code K x.1 x.2.1 x.2.2.1 w)) ref01_Code_facts fun x w y w2 h => ref01_Code_calls K x w y w2 h

noncomputable def ref06_Spring_update_E (K : Nat) : List (Nat × CE) := [(28, ref01_Code_ce K)]
theorem ref06_Spring_update_Eok (K : Nat) : Env.Ok prog (tab (ref06_Spring_update_E K)) := (Env.cons (ref01_Code_ok K) (Env.nil _))
noncomputable def ref06_Spring_update_R (K : Nat) : List (Nat × RE) := []
theorem ref06_Spring_update_Rok (K : Nat) : REnv.Ok prog (tab (ref06_Spring_update_R K)) := (REnv.nil _)
noncomputable def ref06_Spring_update_s1 (K : Nat) (x1 : Sl) (mark4 : Int) (w : World) : Option ((Bool × Unit) × World) :=
  if (mark4 == 1) = true then (some (((((x1.len : Nat) : Int) == 0), ()), w)) else (some ((false, ()), w))
noncomputable def ref06_Spring_update_l0_b (K : Nat) (rec : Option Addr → Sl → Int → World → Option ((Out (Unit) (Unit)) × World)) (s0 : Option Addr) (x1 : Sl) (mark4 : Int) (w : World) : Option ((Out (Unit) (Unit)) × World) :=
  if (decide (mark4 < 2)) = true then (bnd (ref06_Spring_update_s1 K x1 mark4 w) fun y_1 w_2 =>
  if y_1.1 = true then (some (.ret (), w_2)) else ((s0).bind fun p_3 =>
  (ldS (p_3.add 4) w_2).bind fun v_4 =>
  bnd (apd prog 22 22 (.slice none 0 0) (.slice v_4.a v_4.len v_4.cap) w_2) fun s_5 w_6 =>
  bnd (bldS prog 22 1 #[(0, (.int .u8 (IntKind.u8.wrap mark4)))] w_6) fun s_7 w_8 =>
  bnd (apd prog 22 22 (.slice s_5.a s_5.len s_5.cap) (.slice s_7.a s_7.len s_7.cap) w_8) fun s_9 w_10 =>
  bnd (apd prog 22 22 (.slice s_9.a s_9.len s_9.cap) (.slice x1.a x1.len x1.cap) w_10) fun s_11 w_12 =>
  (s0).bind fun p_13 =>
  (s0).bind fun p_14 =>
  (ldI .i64 (p_13.add 0) w_12.drew).bind fun v_15 =>
  (ldS (p_14.add 3) w_12.drew).bind fun v_16 =>
  bnd (ref01_Code K v_15 v_16 s_11 w_12.drew) fun r_17 w_18 =>
  (s0).bind fun p_19 =>
  (stC (p_19.add 3) (.slice r_17.1.a r_17.1.len r_17.1.cap) w_18).bind fun w_20 =>
  (s0).bind fun p_21 =>
  (s0).bind fun p_22 =>
  (s0).bind fun p_23 =>
  (ldI .i64 (p_21.add 0) w_20.drew).bind fun v_24 =>
  (ldS (p_22.add 3) w_20.drew).bind fun v_25 =>
  (ldS (p_23.add 4) w_20.drew).bind fun v_26 =>
  bnd (ref01_Code K v_24 v_25 v_26 w_20.drew) fun r_27 w_28 =>
  (s0).bind fun p_29 =>
  (stC (p_29.add 4) (.slice r_27.1.a r_27.1.len r_27.1.cap) w_28).bind fun w_30 =>
  rec s0 x1 (IntKind.i64.wrap (mark4 + 1)) w_30)) else (some (.norm (), w))
noncomputable def ref06_Spring_update_l0 (K : Nat) (n : Nat) : Option Addr → Sl → Int → World → Option ((Out (Unit) (Unit)) × World) := iter (fun _ _ _ _ => none) (ref06_Spring_update_l0_b K) n
/-- (*coffer/cofferref06.Spring).update -/
noncomputable def ref06_Spring_update (K : Nat) (s0 : Option Addr) (x1 : Sl) (w : World) : Option ((Unit) × World) :=
  bnd (ref06_Spring_update_l0 K K s0 x1 0 w) fun y_31 w_32 =>
  (match y_31 with
  | .norm z_33n => (some ((), w_32))
  | .ret z_33r => (some ((), w_32)))
theorem ref06_Spring_update_s1_ok (K : Nat) : StmtNOk prog [(1, .sl), (4, .int .i64)] [(16, .bool)] [(10, 17)] (fun x w => ref06_Spring_update_s1 K x.1 x.2.1 w) (cd (bodyOf f27) [1, 0, 0, 1, 0, 0, 0, 0]) :=
    mk_stmtN (O := tabL []) (root := (bodyOf f27)) (π := [1, 0, 0, 1, 0, 0, 0, 0]) (Li := [(1, .sl), (4, .int .i64)]) (Lo := [(16, .bool)]) (S := (fun x w => ref06_Spring_update_s1 K x.1 x.2.1 w)) (ref06_Spring_update_Eok K) (ref06_Spring_update_Rok K) rfl (Orc.nil _ _ _) (by kernel_rfl) (fun _ _ => by kernel_rfl)
noncomputable def ref06_Spring_update_s1_se (K : Nat) : SE := stmtN [(1, .sl), (4, .int .i64)] [(16, .bool)] [(10, 17)] (fun x w => ref06_Spring_update_s1 K x.1 x.2.1 w)
theorem ref06_Spring_update_s1_se_ok (K : Nat) (R : Rg) (h : subRB [(10, 17)] R = true) : (ref06_Spring_update_s1_se K).Ok prog R (cd (bodyOf f27) [1, 0, 0, 1, 0, 0, 0, 0]) := stmtN_ok (Li := [(1, .sl), (4, .int .i64)]) (Lo := [(16, .bool)]) (S := (fun x w => ref06_Spring_update_s1 K x.1 x.2.1 w)) (ref06_Spring_update_s1_ok K) (subR_of h)
theorem ref06_Spring_update_l0_ok (K : Nat) (n : Nat) : StmtOk prog [(0, .ptr), (1, .sl), (4, .int .i64)] [] [] [(4, 60)] ((fun n x w => ref06_Spring_update_l0 K n x.1 x.2.1 x.2.2.1 w) n) (.block 0 (.loop (cd (bodyOf f27) [1, 0, 0]))) :=
    mk_loop (O := tabL [([1, 0, 0, 1, 0, 0, 0, 0], ref06_Spring_update_s1_se K)]) (root := (bodyOf f27)) (π := [1, 0, 0]) (id := 0) (Li := [(0, .ptr), (1, .sl), (4, .int .i64)]) (Lo := []) (Lr := []) (S := (fun n x w => ref06_Spring_update_l0 K n x.1 x.2.1 x.2.2.1 w)) (body := cd (bodyOf f27) [1, 0, 0]) (ref06_Spring_update_Eok K) (ref06_Spring_update_Rok K) rfl (Orc.cons (by kernel_rfl) (ref06_Spring_update_s1_se_ok K [(4, 60)] (by kernel_rfl)) (Orc.nil _ _ _)) (by kernel_rfl) (fun _ _ => by kernel_rfl) (fun _ _ _ => by kernel_rfl) n
noncomputable def ref06_Spring_update_l0_se (K : Nat) : SE := stmt [(0, .ptr), (1, .sl), (4, .int .i64)] [] [] [(4, 60)] (fun x w => ref06_Spring_update_l0 K K x.1 x.2.1 x.2.2.1 w)
theorem ref06_Spring_update_l0_se_ok (K : Nat) (R : Rg) (h : subRB [(4, 60)] R = true) : (ref06_Spring_update_l0_se K).Ok prog R (.block 0 (.loop (cd (bodyOf f27) [1, 0, 0]))) := stmt_ok (Li := [(0, .ptr), (1, .sl), (4, .int .i64)]) (Lo := []) (Lr := []) (S := (fun x w => ref06_Spring_update_l0 K K x.1 x.2.1 x.2.2.1 w)) (ref06_Spring_update_l0_ok K K) (subR_of h)
theorem ref06_Spring_update_facts : FunFacts prog 27 f27 (bodyOf f27) [(0, .ptr), (1, .sl)] [(0, 60)] := ⟨func27, by kernel_rfl, by kernel_rfl, by kernel_rfl, by kernel_rfl, by kernel_rfl⟩
theorem ref06_Spring_update_calls (K : Nat) (x : TT [(0, .ptr), (1, .sl)]) (w : World) (y : TR []) (w2 : World) (h : ref06_Spring_update K x.1 x.2.1 w = some (y, w2)) : Calls prog 27 (encA [(0, .ptr), (1, .sl)] x).toArray w (fun e w3 => e = .returned (resV (encR [] y)) ∧ w3 = w2) :=
    mk_fun (O := tabL [([1], ref06_Spring_update_l0_se K), ([1, 0, 0, 1, 0, 0, 0, 0], ref06_Spring_update_s1_se K)]) (Lp := [(0, .ptr), (1, .sl)]) (Rt := []) (S := (fun x w => ref06_Spring_update K x.1 x.2.1 w)) (ref06_Spring_update_Eok K) (ref06_Spring_update_Rok K) rfl ref06_Spring_update_facts (Orc.cons (by kernel_rfl) (ref06_Spring_update_l0_se_ok K [(0, 60)] (by kernel_rfl)) (Orc.cons (by kernel_rfl) (ref06_Spring_update_s1_se_ok K [(0, 60)] (by kernel_rfl)) (Orc.nil _ _ _))) (fun _ _ => by kernel_rfl) x w y w2 h
noncomputable def ref06_Spring_update_ce (K : Nat) : CE := funE [(0, .ptr), (1, .sl)] [] (fun x w => ref06_Spring_update K x.1 x.2.1 w)
theorem ref06_Spring_update_ok (K : Nat) : (ref06_Spring_update_ce K).Ok prog 27 := funE_ok (Rt := []) (S := (fun x w => ref06_Spring_update K x.1 x.2.1 w)) ref06_Spring_update_facts fun x w y w2 h => ref06_Spring_update_calls K x w y w2 h

noncomputable def ref06_New_E (K : Nat) : List (Nat × CE) := [(26, ref06_joined_ce K), (27, ref06_Spring_update_ce K)]
theorem ref06_New_Eok (K : Nat) : Env.Ok prog (tab (ref06_New_E K)) := (Env.cons (ref06_joined_ok K) (Env.cons (ref06_Spring_update_ok K) (Env.nil _)))
noncomputable def ref06_New_R (K : Nat) : List (Nat × RE) := [(32, ref01_Size_re)]
theorem ref06_New_Rok (K : Nat) : REnv.Ok prog (tab (ref06_New_R K)) := (REnv.cons (ref01_Size_ok) (REnv.nil _))
noncomputable def ref06_New_s1 (K : Nat) (limit1 : Int) (w : World) : Option ((Bool × Unit) × World) :=
  if (decide (limit1 < 1)) = true then (some ((true, ()), w)) else (some (((decide (limit1 > 16777216)), ()), w))
noncomputable def ref06_New_s2 (K : Nat) (entropy2 : Sl) (w : World) : Option ((Bool × Unit) × World) :=
  if (decide (((entropy2.len : Nat) : Int) < 16)) = true then (some ((true, ()), w)) else (some (((decide (((entropy2.len : Nat) : Int) > 65536)), ()), w))
noncomputable def ref06_New_s0 (K : Nat) (limit1 : Int) (entropy2 : Sl) (nonce3 : Sl) (personal4 : Sl) (n12 : Int) (w : World) : Option ((Out (Unit) ((Option Addr) × Int × Unit)) × World) :=
  if (n12 == 0) = true then (some (.ret (none, 10, ()), w)) else (bnd (ref06_New_s1 K limit1 w) fun y_2 w_3 =>
  if y_2.1 = true then (some (.ret (none, 2, ()), w_3)) else (bnd (ref06_New_s2 K entropy2 w_3) fun y_4 w_5 =>
  if y_4.1 = true then (some (.ret (none, 60, ()), w_5)) else (if (decide (((nonce3.len : Nat) : Int) > 65536)) = true then (some (.ret (none, 4, ()), w_5)) else (if (decide (((personal4.len : Nat) : Int) > 65536)) = true then (some (.ret (none, 4, ()), w_5)) else (some (.norm (), w_5))))))
noncomputable def ref06_New_l3_b (K : Nat) (rec : Sl → Sl → Sl → Int → Addr → Int → World → Option ((Unit) × World)) (entropy2 : Sl) (nonce3 : Sl) (personal4 : Sl) (n12 : Int) (s13 : Addr) (i14 : Int) (w : World) : Option ((Unit) × World) :=
  if (decide (i14 < n12)) = true then ((ldS (s13.add 4) w).bind fun v_14 =>
  bnd (bldS prog 22 1 #[(0, (.int .u8 1))] w) fun s_15 w_16 =>
  bnd (apd prog 22 22 (.slice v_14.a v_14.len v_14.cap) (.slice s_15.a s_15.len s_15.cap) w_16) fun s_17 w_18 =>
  (stC (s13.add 4) (.slice s_17.a s_17.len s_17.cap) w_18).bind fun w_19 =>
  rec entropy2 nonce3 personal4 n12 s13 (IntKind.i64.wrap (i14 + 1)) w_19) else (some ((), w))
noncomputable def ref06_New_l3 (K : Nat) (n : Nat) : Sl → Sl → Sl → Int → Addr → Int → World → Option ((Unit) × World) := iter (fun _ _ _ _ _ _ _ => none) (ref06_New_l3_b K) n
/-- coffer/cofferref06.New -/
noncomputable def ref06_New (K : Nat) (hash0 : Int) (limit1 : Int) (entropy2 : Sl) (nonce3 : Sl) (personal4 : Sl) (w : World) : Option (((Option Addr) × Int × Unit) × World) :=
  (ref01_Size hash0).bind fun r_1 =>
  bnd (ref06_New_s0 K limit1 entropy2 nonce3 personal4 r_1.1 w) fun y_6 w_7 =>
  (match y_6 with
  | .norm z_8n => (bnd (mkS prog 22 (.int .i64 r_1.1) (.int .i64 r_1.1) w_7) fun s_9 w_10 =>
  (prog.built 59 [(0, (.int .i64 hash0)), (1, (.int .i64 limit1)), (3, (.slice s_9.a s_9.len s_9.cap))]).bind fun cs_11 =>
  bnd (newB cs_11 59 w_10) fun p_12 w_13 =>
  bnd (ref06_New_l3 K K entropy2 nonce3 personal4 r_1.1 p_12 0 w_13) fun y_20 w_21 =>
  bnd (bldS prog 49 3 #[(0, (.slice entropy2.a entropy2.len entropy2.cap)), (1, (.slice nonce3.a nonce3.len nonce3.cap)), (2, (.slice personal4.a personal4.len personal4.cap))] w_21) fun s_22 w_23 =>
  bnd (ref06_joined K s_22 w_23) fun r_24 w_25 =>
  bnd (ref06_Spring_update K (some p_12) r_24.1 w_25) fun r_26 w_27 =>
  some (((some p_12), 0, ()), w_27))
  | .ret z_8r => (some ((z_8r.1, z_8r.2.1, ()), w_7)))
theorem ref06_New_s1_ok (K : Nat) : StmtNOk prog [(1, .int .i64)] [(21, .bool)] [(21, 28)] (fun x w => ref06_New_s1 K x.1 w) (cd (bodyOf f18) [1, 1, 0, 0, 1, 1, 0]) :=
    mk_stmtN (O := tabL []) (root := (bodyOf f18)) (π := [1, 1, 0, 0, 1, 1, 0]) (Li := [(1, .int .i64)]) (Lo := [(21, .bool)]) (S := (fun x w => ref06_New_s1 K x.1 w)) (ref06_New_Eok K) (ref06_New_Rok K) rfl (Orc.nil _ _ _) (by kernel_rfl) (fun _ _ => by kernel_rfl)
noncomputable def ref06_New_s1_se (K : Nat) : SE := stmtN [(1, .int .i64)] [(21, .bool)] [(21, 28)] (fun x w => ref06_New_s1 K x.1 w)
theorem ref06_New_s1_se_ok (K : Nat) (R : Rg) (h : subRB [(21, 28)] R = true) : (ref06_New_s1_se K).Ok prog R (cd (bodyOf f18) [1, 1, 0, 0, 1, 1, 0]) := stmtN_ok (Li := [(1, .int .i64)]) (Lo := [(21, .bool)]) (S := (fun x w => ref06_New_s1 K x.1 w)) (ref06_New_s1_ok K) (subR_of h)
theorem ref06_New_s2_ok (K : Nat) : StmtNOk prog [(2, .sl)] [(28, .bool)] [(28, 37)] (fun x w => ref06_New_s2 K x.1 w) (cd (bodyOf f18) [1, 1, 0, 0, 1, 1, 1, 1, 0]) :=
    mk_stmtN (O := tabL []) (root := (bodyOf f18)) (π := [1, 1, 0, 0, 1, 1, 1, 1, 0]) (Li := [(2, .sl)]) (Lo := [(28, .bool)]) (S := (fun x w => ref06_New_s2 K x.1 w)) (ref06_New_Eok K) (ref06_New_Rok K) rfl (Orc.nil _ _ _) (by kernel_rfl) (fun _ _ => by kernel_rfl)
noncomputable def ref06_New_s2_se (K : Nat) : SE := stmtN [(2, .sl)] [(28, .bool)] [(28, 37)] (fun x w => ref06_New_s2 K x.1 w)
theorem ref06_New_s2_se_ok (K : Nat) (R : Rg) (h : subRB [(28, 37)] R = true) : (ref06_New_s2_se K).Ok prog R (cd (bodyOf f18) [1, 1, 0, 0, 1, 1, 1, 1, 0]) := stmtN_ok (Li := [(2, .sl)]) (Lo := [(28, .bool)]) (S := (fun x w => ref06_New_s2 K x.1 w)) (ref06_New_s2_ok K) (subR_of h)
theorem ref06_New_s0_ok (K : Nat) : StmtOk prog [(1, .int .i64), (2, .sl), (3, .sl), (4, .sl), (12, .int .i64)] [] [(10, .ptr), (11, .int .i64)] [(10, 12), (18, 46)] (fun x w => ref06_New_s0 K x.1 x.2.1 x.2.2.1 x.2.2.2.1 x.2.2.2.2.1 w) (cd (bodyOf f18) [1, 1, 0]) :=
    mk_stmt (O := tabL [([1, 1, 0, 0, 1, 1, 0], ref06_New_s1_se K), ([1, 1, 0, 0, 1, 1, 1, 1, 0], ref06_New_s2_se K)]) (root := (bodyOf f18)) (π := [1, 1, 0]) (Li := [(1, .int .i64), (2, .sl), (3, .sl), (4, .sl), (12, .int .i64)]) (Lo := []) (Lr := [(10, .ptr), (11, .int .i64)]) (S := (fun x w => ref06_New_s0 K x.1 x.2.1 x.2.2.1 x.2.2.2.1 x.2.2.2.2.1 w)) (ref06_New_Eok K) (ref06_New_Rok K) rfl (Orc.cons (by kernel_rfl) (ref06_New_s1_se_ok K [(10, 12), (18, 46)] (by kernel_rfl)) (Orc.cons (by kernel_rfl) (ref06_New_s2_se_ok K [(10, 12), (18, 46)] (by kernel_rfl)) (Orc.nil _ _ _))) (by kernel_rfl) (fun _ _ => by kernel_rfl)
noncomputable def ref06_New_s0_se (K : Nat) : SE := stmt [(1, .int .i64), (2, .sl), (3, .sl), (4, .sl), (12, .int .i64)] [] [(10, .ptr), (11, .int .i64)] [(10, 12), (18, 46)] (fun x w => ref06_New_s0 K x.1 x.2.1 x.2.2.1 x.2.2.2.1 x.2.2.2.2.1 w)
theorem ref06_New_s0_se_ok (K : Nat) (R : Rg) (h : subRB [(10, 12), (18, 46)] R = true) : (ref06_New_s0_se K).Ok prog R (cd (bodyOf f18) [1, 1, 0]) := stmt_ok (Li := [(1, .int .i64), (2, .sl), (3, .sl), (4, .sl), (12, .int .i64)]) (Lo := []) (Lr := [(10, .ptr), (11, .int .i64)]) (S := (fun x w => ref06_New_s0 K x.1 x.2.1 x.2.2.1 x.2.2.2.1 x.2.2.2.2.1 w)) (ref06_New_s0_ok K) (subR_of h)
theorem ref06_New_l3_ok (K : Nat) (n : Nat) : StmtNOk prog [(2, .sl), (3, .sl), (4, .sl), (12, .int .i64), (13, .addr), (14, .int .i64)] [] [(14, 15), (52, 66)] ((fun n x w => ref06_New_l3 K n x.1 x.2.1 x.2.2.1 x.2.2.2.1 x.2.2.2.2.1 x.2.2.2.2.2.1 w) n) (.block 1 (.loop (cd (bodyOf f18) [1, 1, 1, 1, 0, 1, 0, 0]))) :=
    mk_loopN (O := tabL []) (root := (bodyOf f18)) (π := [1, 1, 1, 1, 0, 1, 0, 0]) (id := 1) (Li := [(2, .sl), (3, .sl), (4, .sl), (12, .int .i64), (13, .addr), (14, .int .i64)]) (Lo := []) (S := (fun n x w => ref06_New_l3 K n x.1 x.2.1 x.2.2.1 x.2.2.2.1 x.2.2.2.2.1 x.2.2.2.2.2.1 w)) (body := cd (bodyOf f18) [1, 1, 1, 1, 0, 1, 0, 0]) (ref06_New_Eok K) (ref06_New_Rok K) rfl (Orc.nil _ _ _) (by kernel_rfl) (fun _ _ => by kernel_rfl) (fun _ _ _ => by kernel_rfl) n
noncomputable def ref06_New_l3_se (K : Nat) : SE := stmtN [(2, .sl), (3, .sl), (4, .sl), (12, .int .i64), (13, .addr), (14, .int .i64)] [] [(14, 15), (52, 66)] (fun x w => ref06_New_l3 K K x.1 x.2.1 x.2.2.1 x.2.2.2.1 x.2.2.2.2.1 x.2.2.2.2.2.1 w)
theorem ref06_New_l3_se_ok (K : Nat) (R : Rg) (h : subRB [(14, 15), (52, 66)] R = true) : (ref06_New_l3_se K).Ok prog R (.block 1 (.loop (cd (bodyOf f18) [1, 1, 1, 1, 0, 1, 0, 0]))) := stmtN_ok (Li := [(2, .sl), (3, .sl), (4, .sl), (12, .int .i64), (13, .addr), (14, .int .i64)]) (Lo := []) (S := (fun x w => ref06_New_l3 K K x.1 x.2.1 x.2.2.1 x.2.2.2.1 x.2.2.2.2.1 x.2.2.2.2.2.1 w)) (ref06_New_l3_ok K K) (subR_of h)
theorem ref06_New_facts : FunFacts prog 18 f18 (bodyOf f18) [(0, .int .i64), (1, .int .i64), (2, .sl), (3, .sl), (4, .sl)] [(0, 75)] := ⟨func18, by kernel_rfl, by kernel_rfl, by kernel_rfl, by kernel_rfl, by kernel_rfl⟩
theorem ref06_New_calls (K : Nat) (x : TT [(0, .int .i64), (1, .int .i64), (2, .sl), (3, .sl), (4, .sl)]) (w : World) (y : TR [.ptr, .int .i64]) (w2 : World) (h : ref06_New K x.1 x.2.1 x.2.2.1 x.2.2.2.1 x.2.2.2.2.1 w = some (y, w2)) : Calls prog 18 (encA [(0, .int .i64), (1, .int .i64), (2, .sl), (3, .sl), (4, .sl)] x).toArray w (fun e w3 => e = .returned (resV (encR [.ptr, .int .i64] y)) ∧ w3 = w2) :=
    mk_fun (O := tabL [([1, 1, 0], ref06_New_s0_se K), ([1, 1, 0, 0, 1, 1, 0], ref06_New_s1_se K), ([1, 1, 0, 0, 1, 1, 1, 1, 0], ref06_New_s2_se K), ([1, 1, 1, 1, 0, 1], ref06_New_l3_se K)]) (Lp := [(0, .int .i64), (1, .int .i64), (2, .sl), (3, .sl), (4, .sl)]) (Rt := [.ptr, .int .i64]) (S := (fun x w => ref06_New K x.1 x.2.1 x.2.2.1 x.2.2.2.1 x.2.2.2.2.1 w)) (ref06_New_Eok K) (ref06_New_Rok K) rfl ref06_New_facts (Orc.cons (by kernel_rfl) (ref06_New_s0_se_ok K [(0, 75)] (by kernel_rfl)) (Orc.cons (by kernel_rfl) (ref06_New_s1_se_ok K [(0, 75)] (by kernel_rfl)) (Orc.cons (by kernel_rfl) (ref06_New_s2_se_ok K [(0, 75)] (by kernel_rfl)) (Orc.cons (by kernel_rfl) (ref06_New_l3_se_ok K [(0, 75)] (by kernel_rfl)) (Orc.nil _ _ _))))) (fun _ _ => by kernel_rfl) x w y w2 h
noncomputable def ref06_New_ce (K : Nat) : CE := funE [(0, .int .i64), (1, .int .i64), (2, .sl), (3, .sl), (4, .sl)] [.ptr, .int .i64] (fun x w => ref06_New K x.1 x.2.1 x.2.2.1 x.2.2.2.1 x.2.2.2.2.1 w)
theorem ref06_New_ok (K : Nat) : (ref06_New_ce K).Ok prog 18 := funE_ok (Rt := [.ptr, .int .i64]) (S := (fun x w => ref06_New K x.1 x.2.1 x.2.2.1 x.2.2.2.1 x.2.2.2.2.1 w)) ref06_New_facts fun x w y w2 h => ref06_New_calls K x w y w2 h

noncomputable def law06_num_R : List (Nat × RE) := []
theorem law06_num_Rok : REnv.Ok prog (tab (law06_num_R)) := (REnv.nil _)
/-- coffer/cofferlaw06.num -/
noncomputable def law06_num (e0 : Int) : Option (Int × Unit) :=
  some (e0, ())
theorem law06_num_facts : FunFacts prog 10 f10 (bodyOf f10) [(0, .int .i64)] [(0, 4)] := ⟨func10, by kernel_rfl, by kernel_rfl, by kernel_rfl, by kernel_rfl, by kernel_rfl⟩
theorem law06_num_calls (x : TT [(0, .int .i64)]) (w : World) (y : TR [.int .i64]) (h : law06_num x.1 = some y) : Calls prog 10 (encA [(0, .int .i64)] x).toArray w (fun e w3 => e = .returned (resV (encR [.int .i64] y)) ∧ w3 = w) :=
    mk_funQ (O := tabL []) (Lp := [(0, .int .i64)]) (Rt := [.int .i64]) (S := (fun x w => law06_num x.1)) (law06_num_Rok) law06_num_facts (OrcQ.nil _ _ _) (fun _ _ => by kernel_rfl) x w y h
noncomputable def law06_num_re : RE := funR [(0, .int .i64)] [.int .i64] (fun x w => law06_num x.1)
theorem law06_num_ok : (law06_num_re).Ok prog 10 := funR_ok (Rt := [.int .i64]) (S := (fun x w => law06_num x.1)) law06_num_facts fun x w y h => law06_num_calls x w y h

end Go.Sh

/- What functions of the program do, as Lean functions; that the machine does just that. Printed by shal.py, a program of this claim's writer. -/
set_option maxRecDepth 100000
set_option linter.unusedVariables false
namespace Go.Sh
open Go.Fw Go.Proofs.Tryd

noncomputable def book_SameBytes_E (K : Nat) : List (Nat × CE) := []
theorem book_SameBytes_Eok (K : Nat) : Env.Ok prog (tab (book_SameBytes_E K)) := (Env.nil _)
noncomputable def book_SameBytes_R (K : Nat) : List (Nat × RE) := []
theorem book_SameBytes_Rok (K : Nat) : REnv.Ok prog (tab (book_SameBytes_R K)) := (REnv.nil _)
noncomputable def book_SameBytes_l0_b (K : Nat) (rec : Sl → Sl → Int → World → Option ((Out (Unit) (Bool × Unit)) × World)) (a0 : Sl) (b1 : Sl) (i5 : Int) (w : World) : Option ((Out (Unit) (Bool × Unit)) × World) :=
  if (decide (i5 < ((a0.len : Nat) : Int))) = true then ((a0.a).bind fun p_1 =>
  if (0 : Int) ≤ i5 ∧ i5 < ((a0.len : Nat) : Int) then ((b1.a).bind fun p_2 =>
  if (0 : Int) ≤ i5 ∧ i5 < ((b1.len : Nat) : Int) then ((ldI .u8 (p_1.add ((Int.toNat i5) * 1)) w.drew).bind fun v_3 =>
  (ldI .u8 (p_2.add ((Int.toNat i5) * 1)) w.drew).bind fun v_4 =>
  if (v_3 != v_4) = true then (some (.ret (false, ()), w.drew)) else (rec a0 b1 (IntKind.i64.wrap (i5 + 1)) w.drew)) else none) else none) else (some (.norm (), w))
noncomputable def book_SameBytes_l0 (K : Nat) (n : Nat) : Sl → Sl → Int → World → Option ((Out (Unit) (Bool × Unit)) × World) := iter (fun _ _ _ _ => none) (book_SameBytes_l0_b K) n
/-- coffer/cofferbook.SameBytes -/
noncomputable def book_SameBytes (K : Nat) (a0 : Sl) (b1 : Sl) (w : World) : Option ((Bool × Unit) × World) :=
  if (((a0.len : Nat) : Int) != ((b1.len : Nat) : Int)) = true then (some ((false, ()), w)) else (bnd (book_SameBytes_l0 K K a0 b1 0 w) fun y_5 w_6 =>
  (match y_5 with
  | .norm z_7n => (some ((true, ()), w_6))
  | .ret z_7r => (some ((z_7r.1, ()), w_6))))
theorem book_SameBytes_l0_ok (K : Nat) (n : Nat) : StmtOk prog [(0, .sl), (1, .sl), (5, .int .i64)] [] [(4, .bool)] [(4, 6), (11, 26)] ((fun n x w => book_SameBytes_l0 K n x.1 x.2.1 x.2.2.1 w) n) (.block 0 (.loop (cd (bodyOf f11) [1, 1, 0, 1, 0, 0]))) :=
    mk_loop (O := tabL []) (root := (bodyOf f11)) (π := [1, 1, 0, 1, 0, 0]) (id := 0) (Li := [(0, .sl), (1, .sl), (5, .int .i64)]) (Lo := []) (Lr := [(4, .bool)]) (S := (fun n x w => book_SameBytes_l0 K n x.1 x.2.1 x.2.2.1 w)) (body := cd (bodyOf f11) [1, 1, 0, 1, 0, 0]) (book_SameBytes_Eok K) (book_SameBytes_Rok K) rfl (Orc.nil _ _ _) (by kernel_rfl) (fun _ _ => by kernel_rfl) (fun _ _ _ => by kernel_rfl) n
noncomputable def book_SameBytes_l0_se (K : Nat) : SE := stmt [(0, .sl), (1, .sl), (5, .int .i64)] [] [(4, .bool)] [(4, 6), (11, 26)] (fun x w => book_SameBytes_l0 K K x.1 x.2.1 x.2.2.1 w)
theorem book_SameBytes_l0_se_ok (K : Nat) (R : Rg) (h : subRB [(4, 6), (11, 26)] R = true) : (book_SameBytes_l0_se K).Ok prog R (.block 0 (.loop (cd (bodyOf f11) [1, 1, 0, 1, 0, 0]))) := stmt_ok (Li := [(0, .sl), (1, .sl), (5, .int .i64)]) (Lo := []) (Lr := [(4, .bool)]) (S := (fun x w => book_SameBytes_l0 K K x.1 x.2.1 x.2.2.1 w)) (book_SameBytes_l0_ok K K) (subR_of h)
theorem book_SameBytes_facts : FunFacts prog 11 f11 (bodyOf f11) [(0, .sl), (1, .sl)] [(0, 26)] := ⟨func11, by kernel_rfl, by kernel_rfl, by kernel_rfl, by kernel_rfl, by kernel_rfl⟩
theorem book_SameBytes_calls (K : Nat) (x : TT [(0, .sl), (1, .sl)]) (w : World) (y : TR [.bool]) (w2 : World) (h : book_SameBytes K x.1 x.2.1 w = some (y, w2)) : Calls prog 11 (encA [(0, .sl), (1, .sl)] x).toArray w (fun e w3 => e = .returned (resV (encR [.bool] y)) ∧ w3 = w2) :=
    mk_fun (O := tabL [([1, 1, 0, 1], book_SameBytes_l0_se K)]) (Lp := [(0, .sl), (1, .sl)]) (Rt := [.bool]) (S := (fun x w => book_SameBytes K x.1 x.2.1 w)) (book_SameBytes_Eok K) (book_SameBytes_Rok K) rfl book_SameBytes_facts (Orc.cons (by kernel_rfl) (book_SameBytes_l0_se_ok K [(0, 26)] (by kernel_rfl)) (Orc.nil _ _ _)) (fun _ _ => by kernel_rfl) x w y w2 h
noncomputable def book_SameBytes_ce (K : Nat) : CE := funE [(0, .sl), (1, .sl)] [.bool] (fun x w => book_SameBytes K x.1 x.2.1 w)
theorem book_SameBytes_ok (K : Nat) : (book_SameBytes_ce K).Ok prog 11 := funE_ok (Rt := [.bool]) (S := (fun x w => book_SameBytes K x.1 x.2.1 w)) book_SameBytes_facts fun x w y w2 h => book_SameBytes_calls K x w y w2 h

noncomputable def book_WholeBytes_E (K : Nat) : List (Nat × CE) := [(11, book_SameBytes_ce K)]
theorem book_WholeBytes_Eok (K : Nat) : Env.Ok prog (tab (book_WholeBytes_E K)) := (Env.cons (book_SameBytes_ok K) (Env.nil _))
noncomputable def book_WholeBytes_R (K : Nat) : List (Nat × RE) := []
theorem book_WholeBytes_Rok (K : Nat) : REnv.Ok prog (tab (book_WholeBytes_R K)) := (REnv.nil _)
noncomputable def book_WholeBytes_l0_b (K : Nat) (rec : Int → Sl → Int → World → Option ((Out (Unit) (Bool × Unit)) × World)) (n5 : Int) (all6 : Sl) (i7 : Int) (w : World) : Option ((Out (Unit) (Bool × Unit)) × World) :=
  if (decide (i7 < 70)) = true then ((all6.a).bind fun p_3 =>
  if (0 : Int) ≤ (IntKind.i64.wrap (n5 + i7)) ∧ (IntKind.i64.wrap (n5 + i7)) < ((all6.len : Nat) : Int) then ((ldI .u8 (p_3.add ((Int.toNat (IntKind.i64.wrap (n5 + i7))) * 1)) w).bind fun v_4 =>
  if (v_4 != (IntKind.u8.wrap (IntKind.i64.wrap (181 + i7)))) = true then (some (.ret (false, ()), w)) else (rec n5 all6 (IntKind.i64.wrap (i7 + 1)) w)) else none) else (some (.norm (), w))
noncomputable def book_WholeBytes_l0 (K : Nat) (n : Nat) : Int → Sl → Int → World → Option ((Out (Unit) (Bool × Unit)) × World) := iter (fun _ _ _ _ => none) (book_WholeBytes_l0_b K) n
/-- coffer/cofferbook.WholeBytes -/
noncomputable def book_WholeBytes (K : Nat) (c0 : Sl) (l1 : Sl) (w : World) : Option ((Bool × Unit) × World) :=
  bnd (book_SameBytes K c0 l1 w) fun r_1 w_2 =>
  if (!r_1.1) = true then (some ((false, ()), w_2)) else (if (0 : Int) ≤ (IntKind.i64.wrap (((c0.len : Nat) : Int) + 70)) ∧ (IntKind.i64.wrap (((c0.len : Nat) : Int) + 70)) ≤ ((c0.cap : Nat) : Int) then (bnd (book_WholeBytes_l0 K K ((c0.len : Nat) : Int) ⟨(sla c0.a 0 c0.cap 1), ((Int.toNat ((IntKind.i64.wrap (((c0.len : Nat) : Int) + 70)))) - 0), (c0.cap - 0)⟩ 0 w_2) fun y_5 w_6 =>
  (match y_5 with
  | .norm z_7n => (some ((true, ()), w_6))
  | .ret z_7r => (some ((z_7r.1, ()), w_6)))) else none)
theorem book_WholeBytes_l0_ok (K : Nat) (n : Nat) : StmtOk prog [(5, .int .i64), (6, .sl), (7, .int .i64)] [] [(4, .bool)] [(4, 5), (7, 8), (18, 32)] ((fun n x w => book_WholeBytes_l0 K n x.1 x.2.1 x.2.2.1 w) n) (.block 0 (.loop (cd (bodyOf f19) [1, 1, 1, 1, 0, 1, 0, 0]))) :=
    mk_loop (O := tabL []) (root := (bodyOf f19)) (π := [1, 1, 1, 1, 0, 1, 0, 0]) (id := 0) (Li := [(5, .int .i64), (6, .sl), (7, .int .i64)]) (Lo := []) (Lr := [(4, .bool)]) (S := (fun n x w => book_WholeBytes_l0 K n x.1 x.2.1 x.2.2.1 w)) (body := cd (bodyOf f19) [1, 1, 1, 1, 0, 1, 0, 0]) (book_WholeBytes_Eok K) (book_WholeBytes_Rok K) rfl (Orc.nil _ _ _) (by kernel_rfl) (fun _ _ => by kernel_rfl) (fun _ _ _ => by kernel_rfl) n
noncomputable def book_WholeBytes_l0_se (K : Nat) : SE := stmt [(5, .int .i64), (6, .sl), (7, .int .i64)] [] [(4, .bool)] [(4, 5), (7, 8), (18, 32)] (fun x w => book_WholeBytes_l0 K K x.1 x.2.1 x.2.2.1 w)
theorem book_WholeBytes_l0_se_ok (K : Nat) (R : Rg) (h : subRB [(4, 5), (7, 8), (18, 32)] R = true) : (book_WholeBytes_l0_se K).Ok prog R (.block 0 (.loop (cd (bodyOf f19) [1, 1, 1, 1, 0, 1, 0, 0]))) := stmt_ok (Li := [(5, .int .i64), (6, .sl), (7, .int .i64)]) (Lo := []) (Lr := [(4, .bool)]) (S := (fun x w => book_WholeBytes_l0 K K x.1 x.2.1 x.2.2.1 w)) (book_WholeBytes_l0_ok K K) (subR_of h)
theorem book_WholeBytes_facts : FunFacts prog 19 f19 (bodyOf f19) [(0, .sl), (1, .sl)] [(0, 32)] := ⟨func19, by kernel_rfl, by kernel_rfl, by kernel_rfl, by kernel_rfl, by kernel_rfl⟩
theorem book_WholeBytes_calls (K : Nat) (x : TT [(0, .sl), (1, .sl)]) (w : World) (y : TR [.bool]) (w2 : World) (h : book_WholeBytes K x.1 x.2.1 w = some (y, w2)) : Calls prog 19 (encA [(0, .sl), (1, .sl)] x).toArray w (fun e w3 => e = .returned (resV (encR [.bool] y)) ∧ w3 = w2) :=
    mk_fun (O := tabL [([1, 1, 1, 1, 0, 1], book_WholeBytes_l0_se K)]) (Lp := [(0, .sl), (1, .sl)]) (Rt := [.bool]) (S := (fun x w => book_WholeBytes K x.1 x.2.1 w)) (book_WholeBytes_Eok K) (book_WholeBytes_Rok K) rfl book_WholeBytes_facts (Orc.cons (by kernel_rfl) (book_WholeBytes_l0_se_ok K [(0, 32)] (by kernel_rfl)) (Orc.nil _ _ _)) (fun _ _ => by kernel_rfl) x w y w2 h
noncomputable def book_WholeBytes_ce (K : Nat) : CE := funE [(0, .sl), (1, .sl)] [.bool] (fun x w => book_WholeBytes K x.1 x.2.1 w)
theorem book_WholeBytes_ok (K : Nat) : (book_WholeBytes_ce K).Ok prog 19 := funE_ok (Rt := [.bool]) (S := (fun x w => book_WholeBytes K x.1 x.2.1 w)) book_WholeBytes_facts fun x w y w2 h => book_WholeBytes_calls K x w y w2 h

noncomputable def book_SpoilBytes_E (K : Nat) : List (Nat × CE) := []
theorem book_SpoilBytes_Eok (K : Nat) : Env.Ok prog (tab (book_SpoilBytes_E K)) := (Env.nil _)
noncomputable def book_SpoilBytes_R (K : Nat) : List (Nat × RE) := []
theorem book_SpoilBytes_Rok (K : Nat) : REnv.Ok prog (tab (book_SpoilBytes_R K)) := (REnv.nil _)
noncomputable def book_SpoilBytes_l0_b (K : Nat) (rec : Sl → Int → World → Option ((Unit) × World)) (l0 : Sl) (i2 : Int) (w : World) : Option ((Unit) × World) :=
  if (decide (i2 < ((l0.len : Nat) : Int))) = true then ((l0.a).bind fun p_1 =>
  if (0 : Int) ≤ i2 ∧ i2 < ((l0.len : Nat) : Int) then ((ldI .u8 (p_1.add ((Int.toNat i2) * 1)) w).bind fun v_2 =>
  (l0.a).bind fun p_3 =>
  if (0 : Int) ≤ i2 ∧ i2 < ((l0.len : Nat) : Int) then ((stC (p_3.add ((Int.toNat i2) * 1)) (.int .u8 (bits .xor .u8 v_2 165)) w).bind fun w_4 =>
  rec l0 (IntKind.i64.wrap (i2 + 1)) w_4) else none) else none) else (some ((), w))
noncomputable def book_SpoilBytes_l0 (K : Nat) (n : Nat) : Sl → Int → World → Option ((Unit) × World) := iter (fun _ _ _ => none) (book_SpoilBytes_l0_b K) n
noncomputable def book_SpoilBytes_l1_b (K : Nat) (rec : Sl → Int → World → Option ((Sl × Unit) × World)) (l0 : Sl) (i3 : Int) (w : World) : Option ((Sl × Unit) × World) :=
  if (decide (i3 < 70)) = true then (bnd (bldS prog 22 1 #[(0, (.int .u8 (IntKind.u8.wrap (IntKind.i64.wrap ((IntKind.i64.wrap (7 * i3)) + 3)))))] w) fun s_11 w_12 =>
  bnd (apd prog 22 22 (.slice l0.a l0.len l0.cap) (.slice s_11.a s_11.len s_11.cap) w_12) fun s_13 w_14 =>
  rec s_13 (IntKind.i64.wrap (i3 + 1)) w_14) else (some ((l0, ()), w))
noncomputable def book_SpoilBytes_l1 (K : Nat) (n : Nat) : Sl → Int → World → Option ((Sl × Unit) × World) := iter (fun _ _ _ => none) (book_SpoilBytes_l1_b K) n
/-- coffer/cofferbook.SpoilBytes -/
noncomputable def book_SpoilBytes (K : Nat) (l0 : Sl) (w : World) : Option ((Unit) × World) :=
  bnd (book_SpoilBytes_l0 K K l0 0 w) fun y_5 w_6 =>
  bnd (bldS prog 22 1 #[(0, (.int .u8 1))] w_6) fun s_7 w_8 =>
  bnd (apd prog 22 22 (.slice l0.a l0.len l0.cap) (.slice s_7.a s_7.len s_7.cap) w_8) fun s_9 w_10 =>
  bnd (book_SpoilBytes_l1 K K s_9 0 w_10) fun y_15 w_16 =>
  (y_15.1.a).bind fun p_17 =>
  if (0 : Int) ≤ (IntKind.i64.wrap (((y_15.1.len : Nat) : Int) - 1)) ∧ (IntKind.i64.wrap (((y_15.1.len : Nat) : Int) - 1)) < ((y_15.1.len : Nat) : Int) then ((stC (p_17.add ((Int.toNat (IntKind.i64.wrap (((y_15.1.len : Nat) : Int) - 1))) * 1)) (.int .u8 77) w_16).bind fun w_18 =>
  some ((), w_18)) else none
theorem book_SpoilBytes_l0_ok (K : Nat) (n : Nat) : StmtNOk prog [(0, .sl), (2, .int .i64)] [] [(2, 3), (4, 18)] ((fun n x w => book_SpoilBytes_l0 K n x.1 x.2.1 w) n) (.block 0 (.loop (cd (bodyOf f20) [0, 1, 0, 0]))) :=
    mk_loopN (O := tabL []) (root := (bodyOf f20)) (π := [0, 1, 0, 0]) (id := 0) (Li := [(0, .sl), (2, .int .i64)]) (Lo := []) (S := (fun n x w => book_SpoilBytes_l0 K n x.1 x.2.1 w)) (body := cd (bodyOf f20) [0, 1, 0, 0]) (book_SpoilBytes_Eok K) (book_SpoilBytes_Rok K) rfl (Orc.nil _ _ _) (by kernel_rfl) (fun _ _ => by kernel_rfl) (fun _ _ _ => by kernel_rfl) n
noncomputable def book_SpoilBytes_l0_se (K : Nat) : SE := stmtN [(0, .sl), (2, .int .i64)] [] [(2, 3), (4, 18)] (fun x w => book_SpoilBytes_l0 K K x.1 x.2.1 w)
theorem book_SpoilBytes_l0_se_ok (K : Nat) (R : Rg) (h : subRB [(2, 3), (4, 18)] R = true) : (book_SpoilBytes_l0_se K).Ok prog R (.block 0 (.loop (cd (bodyOf f20) [0, 1, 0, 0]))) := stmtN_ok (Li := [(0, .sl), (2, .int .i64)]) (Lo := []) (S := (fun x w => book_SpoilBytes_l0 K K x.1 x.2.1 w)) (book_SpoilBytes_l0_ok K K) (subR_of h)
theorem book_SpoilBytes_l1_ok (K : Nat) (n : Nat) : StmtNOk prog [(0, .sl), (3, .int .i64)] [(0, .sl)] [(0, 1), (3, 4), (21, 32)] ((fun n x w => book_SpoilBytes_l1 K n x.1 x.2.1 w) n) (.block 2 (.loop (cd (bodyOf f20) [1, 1, 0, 1, 0, 0]))) :=
    mk_loopN (O := tabL []) (root := (bodyOf f20)) (π := [1, 1, 0, 1, 0, 0]) (id := 2) (Li := [(0, .sl), (3, .int .i64)]) (Lo := [(0, .sl)]) (S := (fun n x w => book_SpoilBytes_l1 K n x.1 x.2.1 w)) (body := cd (bodyOf f20) [1, 1, 0, 1, 0, 0]) (book_SpoilBytes_Eok K) (book_SpoilBytes_Rok K) rfl (Orc.nil _ _ _) (by kernel_rfl) (fun _ _ => by kernel_rfl) (fun _ _ _ => by kernel_rfl) n
noncomputable def book_SpoilBytes_l1_se (K : Nat) : SE := stmtN [(0, .sl), (3, .int .i64)] [(0, .sl)] [(0, 1), (3, 4), (21, 32)] (fun x w => book_SpoilBytes_l1 K K x.1 x.2.1 w)
theorem book_SpoilBytes_l1_se_ok (K : Nat) (R : Rg) (h : subRB [(0, 1), (3, 4), (21, 32)] R = true) : (book_SpoilBytes_l1_se K).Ok prog R (.block 2 (.loop (cd (bodyOf f20) [1, 1, 0, 1, 0, 0]))) := stmtN_ok (Li := [(0, .sl), (3, .int .i64)]) (Lo := [(0, .sl)]) (S := (fun x w => book_SpoilBytes_l1 K K x.1 x.2.1 w)) (book_SpoilBytes_l1_ok K K) (subR_of h)
theorem book_SpoilBytes_facts : FunFacts prog 20 f20 (bodyOf f20) [(0, .sl)] [(0, 37)] := ⟨func20, by kernel_rfl, by kernel_rfl, by kernel_rfl, by kernel_rfl, by kernel_rfl⟩
theorem book_SpoilBytes_calls (K : Nat) (x : TT [(0, .sl)]) (w : World) (y : TR []) (w2 : World) (h : book_SpoilBytes K x.1 w = some (y, w2)) : Calls prog 20 (encA [(0, .sl)] x).toArray w (fun e w3 => e = .returned (resV (encR [] y)) ∧ w3 = w2) :=
    mk_fun (O := tabL [([0, 1], book_SpoilBytes_l0_se K), ([1, 1, 0, 1], book_SpoilBytes_l1_se K)]) (Lp := [(0, .sl)]) (Rt := []) (S := (fun x w => book_SpoilBytes K x.1 w)) (book_SpoilBytes_Eok K) (book_SpoilBytes_Rok K) rfl book_SpoilBytes_facts (Orc.cons (by kernel_rfl) (book_SpoilBytes_l0_se_ok K [(0, 37)] (by kernel_rfl)) (Orc.cons (by kernel_rfl) (book_SpoilBytes_l1_se_ok K [(0, 37)] (by kernel_rfl)) (Orc.nil _ _ _))) (fun _ _ => by kernel_rfl) x w y w2 h
noncomputable def book_SpoilBytes_ce (K : Nat) : CE := funE [(0, .sl)] [] (fun x w => book_SpoilBytes K x.1 w)
theorem book_SpoilBytes_ok (K : Nat) : (book_SpoilBytes_ce K).Ok prog 20 := funE_ok (Rt := []) (S := (fun x w => book_SpoilBytes K x.1 w)) book_SpoilBytes_facts fun x w y w2 h => book_SpoilBytes_calls K x w y w2 h

noncomputable def law06_begun_E (K : Nat) : List (Nat × CE) := [(17, book_Bytes_ce K), (14, spring_New_ce K), (18, ref06_New_ce K), (19, book_WholeBytes_ce K), (20, book_SpoilBytes_ce K)]
theorem law06_begun_Eok (K : Nat) : Env.Ok prog (tab (law06_begun_E K)) := (Env.cons (book_Bytes_ok K) (Env.cons (spring_New_ok K) (Env.cons (ref06_New_ok K) (Env.cons (book_WholeBytes_ok K) (Env.cons (book_SpoilBytes_ok K) (Env.nil _))))))
noncomputable def law06_begun_R (K : Nat) : List (Nat × RE) := [(10, law06_num_re)]
theorem law06_begun_Rok (K : Nat) : REnv.Ok prog (tab (law06_begun_R K)) := (REnv.cons (law06_num_ok) (REnv.nil _))
noncomputable def law06_begun_s0 (K : Nat) (c1 : Addr) (x5 : Sl) (y6 : Sl) (z7 : Sl) (s8 : Option Addr) (e9 : Int) (t10 : Option Addr) (f11 : Int) (w : World) : Option ((Bool × Unit) × World) :=
  (law06_num e9).bind fun r_23 =>
  if (r_23.1 == f11) = true then (if (s8.isNone == t10.isNone) = true then ((ldS (c1.add 2) w).bind fun v_24 =>
  bnd (book_WholeBytes K x5 v_24 w) fun r_25 w_26 =>
  if r_25.1 = true then ((ldS (c1.add 3) w_26).bind fun v_27 =>
  bnd (book_WholeBytes K y6 v_27 w_26) fun r_28 w_29 =>
  if r_28.1 = true then ((ldS (c1.add 4) w_29).bind fun v_30 =>
  bnd (book_WholeBytes K z7 v_30 w_29) fun r_31 w_32 =>
  some ((r_31.1, ()), w_32)) else (some ((false, ()), w_29))) else (some ((false, ()), w_26))) else (some ((false, ()), w))) else (some ((false, ()), w))
/-- coffer/cofferlaw06.begun -/
noncomputable def law06_begun {β : Type} (K : Nat) (c0 : Array Value) (w : World) (k : ((Option Addr) × (Option Addr) × Bool × Unit) → World → Option β) : Option β :=
  bnd (newB c0 24 w) fun p_1 w_2 =>
  (ldS (p_1.add 2) w_2).bind fun v_3 =>
  bnd (book_Bytes K v_3 w_2) fun r_4 w_5 =>
  (ldS (p_1.add 3) w_5).bind fun v_6 =>
  bnd (book_Bytes K v_6 w_5) fun r_7 w_8 =>
  (ldS (p_1.add 4) w_8).bind fun v_9 =>
  bnd (book_Bytes K v_9 w_8) fun r_10 w_11 =>
  (ldI .i64 (p_1.add 0) w_11).bind fun v_12 =>
  (ldI .i64 (p_1.add 1) w_11).bind fun v_13 =>
  spring_New K v_12 v_13 r_4.1 r_7.1 r_10.1 w_11 fun r_14 w_15 =>
  (ldI .i64 (p_1.add 0) w_15).bind fun v_16 =>
  (ldI .i64 (p_1.add 1) w_15).bind fun v_17 =>
  (ldS (p_1.add 2) w_15).bind fun v_18 =>
  (ldS (p_1.add 3) w_15).bind fun v_19 =>
  (ldS (p_1.add 4) w_15).bind fun v_20 =>
  bnd (ref06_New K v_16 v_17 v_18 v_19 v_20 w_15) fun r_21 w_22 =>
  bnd (law06_begun_s0 K p_1 r_4.1 r_7.1 r_10.1 r_14.1 r_14.2.1 r_21.1 r_21.2.1 w_22) fun y_33 w_34 =>
  bnd (book_SpoilBytes K r_4.1 w_34) fun r_35 w_36 =>
  bnd (book_SpoilBytes K r_7.1 w_36) fun r_37 w_38 =>
  bnd (book_SpoilBytes K r_10.1 w_38) fun r_39 w_40 =>
  k (r_14.1, r_21.1, y_33.1, ()) w_40
theorem law06_begun_s0_ok (K : Nat) : StmtNOk prog [(1, .addr), (5, .sl), (6, .sl), (7, .sl), (8, .ptr), (9, .int .i64), (10, .ptr), (11, .int .i64)] [(12, .bool)] [(12, 13), (47, 76)] (fun x w => law06_begun_s0 K x.1 x.2.1 x.2.2.1 x.2.2.2.1 x.2.2.2.2.1 x.2.2.2.2.2.1 x.2.2.2.2.2.2.1 x.2.2.2.2.2.2.2.1 w) (cd (bodyOf f6) [1, 1, 1, 1, 1, 1, 0]) :=
    mk_stmtN (O := tabL []) (root := (bodyOf f6)) (π := [1, 1, 1, 1, 1, 1, 0]) (Li := [(1, .addr), (5, .sl), (6, .sl), (7, .sl), (8, .ptr), (9, .int .i64), (10, .ptr), (11, .int .i64)]) (Lo := [(12, .bool)]) (S := (fun x w => law06_begun_s0 K x.1 x.2.1 x.2.2.1 x.2.2.2.1 x.2.2.2.2.1 x.2.2.2.2.2.1 x.2.2.2.2.2.2.1 x.2.2.2.2.2.2.2.1 w)) (law06_begun_Eok K) (law06_begun_Rok K) rfl (Orc.nil _ _ _) (by kernel_rfl) (fun _ _ => by kernel_rfl)
noncomputable def law06_begun_s0_se (K : Nat) : SE := stmtN [(1, .addr), (5, .sl), (6, .sl), (7, .sl), (8, .ptr), (9, .int .i64), (10, .ptr), (11, .int .i64)] [(12, .bool)] [(12, 13), (47, 76)] (fun x w => law06_begun_s0 K x.1 x.2.1 x.2.2.1 x.2.2.2.1 x.2.2.2.2.1 x.2.2.2.2.2.1 x.2.2.2.2.2.2.1 x.2.2.2.2.2.2.2.1 w)
theorem law06_begun_s0_se_ok (K : Nat) (R : Rg) (h : subRB [(12, 13), (47, 76)] R = true) : (law06_begun_s0_se K).Ok prog R (cd (bodyOf f6) [1, 1, 1, 1, 1, 1, 0]) := stmtN_ok (Li := [(1, .addr), (5, .sl), (6, .sl), (7, .sl), (8, .ptr), (9, .int .i64), (10, .ptr), (11, .int .i64)]) (Lo := [(12, .bool)]) (S := (fun x w => law06_begun_s0 K x.1 x.2.1 x.2.2.1 x.2.2.2.1 x.2.2.2.2.1 x.2.2.2.2.2.1 x.2.2.2.2.2.2.1 x.2.2.2.2.2.2.2.1 w)) (law06_begun_s0_ok K) (subR_of h)
theorem law06_begun_facts : FunFacts prog 6 f6 (bodyOf f6) [(0, .agg)] [(0, 85)] := ⟨func6, by kernel_rfl, by kernel_rfl, by kernel_rfl, by kernel_rfl, by kernel_rfl⟩
theorem law06_begun_calls (K : Nat) {β : Type} (x : TT [(0, .agg)]) (w : World) (k : TR [.ptr, .ptr, .bool] → World → Option β) (r : β) (h : law06_begun K x.1 w k = some r) : Calls prog 6 (encA [(0, .agg)] x).toArray w (fun e w3 => ∃ y, e = .returned (resV (encR [.ptr, .ptr, .bool] y)) ∧ k y w3 = some r) :=
    mk_funC (O := tabL [([1, 1, 1, 1, 1, 1, 0], law06_begun_s0_se K)]) (Lp := [(0, .agg)]) (Rt := [.ptr, .ptr, .bool]) (S := (fun x w k => law06_begun K x.1 w k)) (law06_begun_Eok K) (law06_begun_Rok K) rfl law06_begun_facts (Orc.cons (by kernel_rfl) (law06_begun_s0_se_ok K [(0, 85)] (by kernel_rfl)) (Orc.nil _ _ _)) (fun _ _ _ => by kernel_rfl) x w k r h
noncomputable def law06_begun_ce (K : Nat) : CE := funC [(0, .agg)] [.ptr, .ptr, .bool] (fun {_} x w k => law06_begun K x.1 w k)
theorem law06_begun_ok (K : Nat) : (law06_begun_ce K).Ok prog 6 := funC_ok (Rt := [.ptr, .ptr, .bool]) (S := (fun {_} x w k => law06_begun K x.1 w k)) law06_begun_facts fun x w k r h => law06_begun_calls K x w k r h

noncomputable def spring_long_R (K : Nat) : List (Nat × RE) := []
theorem spring_long_Rok (K : Nat) : REnv.Ok prog (tab (spring_long_R K)) := (REnv.nil _)
noncomputable def spring_long_l0_b (K : Nat) (w : World) (rec : Int → Sl → Int → Int → Option (Out (Unit) (Bool × Unit))) (n3 : Int) (a6 : Sl) (a7 : Int) (a8 : Int) : Option (Out (Unit) (Bool × Unit)) :=
  if (decide (a8 < a7)) = true then ((a6.a).bind fun p_1 =>
  if (0 : Int) ≤ a8 ∧ a8 < ((a6.len : Nat) : Int) then ((ldS (p_1.add ((Int.toNat a8) * 1)) w).bind fun v_2 =>
  if (decide ((IntKind.i64.wrap (n3 + ((v_2.len : Nat) : Int))) > 65536)) = true then (some (.ret (true, ()))) else (rec (IntKind.i64.wrap (n3 + ((v_2.len : Nat) : Int))) a6 a7 (IntKind.i64.wrap (a8 + 1)))) else none) else (some (.norm ()))
noncomputable def spring_long_l0 (K : Nat) (n : Nat) (n3 : Int) (a6 : Sl) (a7 : Int) (a8 : Int) (w : World) : Option (Out (Unit) (Bool × Unit)) := iter (α := Int → Sl → Int → Int → Option (Out (Unit) (Bool × Unit))) (fun _ _ _ _ => none) (spring_long_l0_b K w) n n3 a6 a7 a8
/-- coffer/spring.long -/
noncomputable def spring_long (K : Nat) (parts0 : Sl) (w : World) : Option (Bool × Unit) :=
  (spring_long_l0 K K 0 parts0 ((parts0.len : Nat) : Int) 0 w).bind fun y_3 =>
  (match y_3 with
  | .norm z_4n => (some (false, ()))
  | .ret z_4r => (some (z_4r.1, ())))
theorem spring_long_l0_ok (K : Nat) (n : Nat) : StmtQOk prog [(3, .int .i64), (6, .sl), (7, .int .i64), (8, .int .i64)] [] [(2, .bool)] [(2, 4), (5, 6), (8, 19)] ((fun n x w => spring_long_l0 K n x.1 x.2.1 x.2.2.1 x.2.2.2.1 w) n) (.block 0 (.loop (cd (bodyOf f21) [1, 1, 0, 1, 0, 0]))) :=
    mk_loopQ (O := tabL []) (root := (bodyOf f21)) (π := [1, 1, 0, 1, 0, 0]) (id := 0) (Li := [(3, .int .i64), (6, .sl), (7, .int .i64), (8, .int .i64)]) (Lo := []) (Lr := [(2, .bool)]) (S := (fun n x w => spring_long_l0 K n x.1 x.2.1 x.2.2.1 x.2.2.2.1 w)) (body := cd (bodyOf f21) [1, 1, 0, 1, 0, 0]) (spring_long_Rok K) (OrcQ.nil _ _ _) (by kernel_rfl) (fun _ _ => by kernel_rfl) (fun _ _ _ => by kernel_rfl) n
noncomputable def spring_long_l0_se (K : Nat) : SQ := stmtQ [(3, .int .i64), (6, .sl), (7, .int .i64), (8, .int .i64)] [] [(2, .bool)] [(2, 4), (5, 6), (8, 19)] (fun x w => spring_long_l0 K K x.1 x.2.1 x.2.2.1 x.2.2.2.1 w)
theorem spring_long_l0_se_ok (K : Nat) (R : Rg) (h : subRB [(2, 4), (5, 6), (8, 19)] R = true) : (spring_long_l0_se K).Ok prog R (.block 0 (.loop (cd (bodyOf f21) [1, 1, 0, 1, 0, 0]))) := stmtQ_ok (Li := [(3, .int .i64), (6, .sl), (7, .int .i64), (8, .int .i64)]) (Lo := []) (Lr := [(2, .bool)]) (S := (fun x w => spring_long_l0 K K x.1 x.2.1 x.2.2.1 x.2.2.2.1 w)) (spring_long_l0_ok K K) (subR_of h)
theorem spring_long_facts : FunFacts prog 21 f21 (bodyOf f21) [(0, .sl)] [(0, 19)] := ⟨func21, by kernel_rfl, by kernel_rfl, by kernel_rfl, by kernel_rfl, by kernel_rfl⟩
theorem spring_long_calls (K : Nat) (x : TT [(0, .sl)]) (w : World) (y : TR [.bool]) (h : spring_long K x.1 w = some y) : Calls prog 21 (encA [(0, .sl)] x).toArray w (fun e w3 => e = .returned (resV (encR [.bool] y)) ∧ w3 = w) :=
    mk_funQ (O := tabL [([1, 1, 0, 1], spring_long_l0_se K)]) (Lp := [(0, .sl)]) (Rt := [.bool]) (S := (fun x w => spring_long K x.1 w)) (spring_long_Rok K) spring_long_facts (OrcQ.cons (by kernel_rfl) (spring_long_l0_se_ok K [(0, 19)] (by kernel_rfl)) (OrcQ.nil _ _ _)) (fun _ _ => by kernel_rfl) x w y h
noncomputable def spring_long_re (K : Nat) : RE := funR [(0, .sl)] [.bool] (fun x w => spring_long K x.1 w)
theorem spring_long_ok (K : Nat) : (spring_long_re K).Ok prog 21 := funR_ok (Rt := [.bool]) (S := (fun x w => spring_long K x.1 w)) spring_long_facts fun x w y h => spring_long_calls K x w y h

noncomputable def spring_Spring_Draw_E (K : Nat) : List (Nat × CE) := [(22, slices_ContainsFunc_byte_byte_ce K), (24, spring_Spring_update_ce K), (25, spring_Spring_code_ce K)]
theorem spring_Spring_Draw_Eok (K : Nat) : Env.Ok prog (tab (spring_Spring_Draw_E K)) := (Env.cons (slices_ContainsFunc_byte_byte_ok K) (Env.cons (spring_Spring_update_ok K) (Env.cons (spring_Spring_code_ok K) (Env.nil _))))
noncomputable def spring_Spring_Draw_R (K : Nat) : List (Nat × RE) := [(21, spring_long_re K)]
theorem spring_Spring_Draw_Rok (K : Nat) : REnv.Ok prog (tab (spring_Spring_Draw_R K)) := (REnv.cons (spring_long_ok K) (REnv.nil _))
noncomputable def spring_Spring_Draw_s1 (K : Nat) (n1 : Int) (extra2 : Sl) (w : World) : Option ((Bool × Unit) × World) :=
  if (decide (n1 > 65536)) = true then (some ((true, ()), w)) else ((spring_long K extra2 w).bind fun r_1 =>
  some ((r_1.1, ()), w))
noncomputable def spring_Spring_Draw_s0 (K : Nat) (s0 : Option Addr) (n1 : Int) (extra2 : Sl) (w : World) : Option ((Out (Unit) (Sl × Int × Unit)) × World) :=
  if s0.isNone = true then (some (.ret (⟨none, 0, 0⟩, 1, ()), w)) else (if (decide (n1 < 0)) = true then (some (.ret (⟨none, 0, 0⟩, 2, ()), w)) else (bnd (spring_Spring_Draw_s1 K n1 extra2 w) fun y_2 w_3 =>
  if y_2.1 = true then (some (.ret (⟨none, 0, 0⟩, 4, ()), w_3)) else ((s0).bind fun p_4 =>
  (s0).bind fun p_5 =>
  (ldI .i64 (p_4.add 2) w_3.drew).bind fun v_6 =>
  (ldI .i64 (p_5.add 1) w_3.drew).bind fun v_7 =>
  if (v_6 == v_7) = true then (some (.ret (⟨none, 0, 0⟩, 61, ()), w_3.drew)) else (some (.norm (), w_3.drew)))))
noncomputable def spring_Spring_Draw_s2 (K : Nat) (s0 : Option Addr) (extra2 : Sl) (a33 : Bool) (w : World) : Option ((Unit) × World) :=
  if a33 = true then (bnd (spring_Spring_update K s0 extra2 w) fun r_13 w_14 =>
  some ((), w_14)) else (some ((), w))
noncomputable def spring_Spring_Draw_l3_b (K : Nat) (rec : Option Addr → Int → Sl → Sl → World → Option ((Sl × Unit) × World)) (s0 : Option Addr) (n1 : Int) (extra2 : Sl) (out8 : Sl) (w : World) : Option ((Sl × Unit) × World) :=
  if (decide (((out8.len : Nat) : Int) < n1)) = true then ((s0).bind fun p_17 =>
  (ldS (p_17.add 4) w).bind fun v_18 =>
  bnd (bldS prog 49 1 #[(0, (.slice v_18.a v_18.len v_18.cap))] w) fun s_19 w_20 =>
  bnd (spring_Spring_code K s0 s_19 w_20) fun r_21 w_22 =>
  (s0).bind fun p_23 =>
  (stC (p_23.add 4) (.slice r_21.1.a r_21.1.len r_21.1.cap) w_22).bind fun w_24 =>
  (s0).bind fun p_25 =>
  (ldS (p_25.add 4) w_24).bind fun v_26 =>
  bnd (apd prog 22 22 (.slice out8.a out8.len out8.cap) (.slice v_26.a v_26.len v_26.cap) w_24) fun s_27 w_28 =>
  rec s0 n1 extra2 s_27 w_28) else (some ((out8, ()), w))
noncomputable def spring_Spring_Draw_l3 (K : Nat) (n : Nat) : Option Addr → Int → Sl → Sl → World → Option ((Sl × Unit) × World) := iter (fun _ _ _ _ _ => none) (spring_Spring_Draw_l3_b K) n
/-- (*coffer/spring.Spring).Draw -/
noncomputable def spring_Spring_Draw (K : Nat) (s0 : Option Addr) (n1 : Int) (extra2 : Sl) (w : World) : Option ((Sl × Int × Unit) × World) :=
  bnd (spring_Spring_Draw_s0 K s0 n1 extra2 w) fun y_8 w_9 =>
  (match y_8 with
  | .norm z_10n => (bnd (slices_ContainsFunc_byte_byte K extra2 (.func (.func 23) #[] #[]) w_9) fun r_11 w_12 =>
  bnd (spring_Spring_Draw_s2 K s0 extra2 r_11.1 w_12) fun y_15 w_16 =>
  bnd (spring_Spring_Draw_l3 K K s0 n1 extra2 ⟨none, 0, 0⟩ w_16) fun y_29 w_30 =>
  bnd (spring_Spring_update K s0 extra2 w_30) fun r_31 w_32 =>
  (s0).bind fun p_33 =>
  (ldI .i64 (p_33.add 2) w_32).bind fun v_34 =>
  (s0).bind fun p_35 =>
  (stC (p_35.add 2) (.int .i64 (IntKind.i64.wrap (v_34 + 1))) w_32).bind fun w_36 =>
  if (0 : Int) ≤ n1 ∧ n1 ≤ ((y_29.1.cap : Nat) : Int) then (if (0 : Int) ≤ n1 ∧ n1 ≤ (((Int.toNat (n1)) : Nat) : Int) then (some ((⟨(sla y_29.1.a 0 (Int.toNat (n1)) 1), ((Int.toNat (n1)) - 0), ((Int.toNat (n1)) - 0)⟩, 0, ()), w_36)) else none) else none)
  | .ret z_10r => (some ((z_10r.1, z_10r.2.1, ()), w_9)))
theorem spring_Spring_Draw_s1_ok (K : Nat) : StmtNOk prog [(1, .int .i64), (2, .sl)] [(15, .bool)] [(15, 22)] (fun x w => spring_Spring_Draw_s1 K x.1 x.2.1 w) (cd (bodyOf f8) [1, 0, 0, 1, 1, 1, 1, 0]) :=
    mk_stmtN (O := tabL []) (root := (bodyOf f8)) (π := [1, 0, 0, 1, 1, 1, 1, 0]) (Li := [(1, .int .i64), (2, .sl)]) (Lo := [(15, .bool)]) (S := (fun x w => spring_Spring_Draw_s1 K x.1 x.2.1 w)) (spring_Spring_Draw_Eok K) (spring_Spring_Draw_Rok K) rfl (Orc.nil _ _ _) (by kernel_rfl) (fun _ _ => by kernel_rfl)
noncomputable def spring_Spring_Draw_s1_se (K : Nat) : SE := stmtN [(1, .int .i64), (2, .sl)] [(15, .bool)] [(15, 22)] (fun x w => spring_Spring_Draw_s1 K x.1 x.2.1 w)
theorem spring_Spring_Draw_s1_se_ok (K : Nat) (R : Rg) (h : subRB [(15, 22)] R = true) : (spring_Spring_Draw_s1_se K).Ok prog R (cd (bodyOf f8) [1, 0, 0, 1, 1, 1, 1, 0]) := stmtN_ok (Li := [(1, .int .i64), (2, .sl)]) (Lo := [(15, .bool)]) (S := (fun x w => spring_Spring_Draw_s1 K x.1 x.2.1 w)) (spring_Spring_Draw_s1_ok K) (subR_of h)
theorem spring_Spring_Draw_s0_ok (K : Nat) : StmtOk prog [(0, .ptr), (1, .int .i64), (2, .sl)] [] [(6, .sl), (7, .int .i64)] [(6, 8), (9, 32)] (fun x w => spring_Spring_Draw_s0 K x.1 x.2.1 x.2.2.1 w) (cd (bodyOf f8) [1, 0]) :=
    mk_stmt (O := tabL [([1, 0, 0, 1, 1, 1, 1, 0], spring_Spring_Draw_s1_se K)]) (root := (bodyOf f8)) (π := [1, 0]) (Li := [(0, .ptr), (1, .int .i64), (2, .sl)]) (Lo := []) (Lr := [(6, .sl), (7, .int .i64)]) (S := (fun x w => spring_Spring_Draw_s0 K x.1 x.2.1 x.2.2.1 w)) (spring_Spring_Draw_Eok K) (spring_Spring_Draw_Rok K) rfl (Orc.cons (by kernel_rfl) (spring_Spring_Draw_s1_se_ok K [(6, 8), (9, 32)] (by kernel_rfl)) (Orc.nil _ _ _)) (by kernel_rfl) (fun _ _ => by kernel_rfl)
noncomputable def spring_Spring_Draw_s0_se (K : Nat) : SE := stmt [(0, .ptr), (1, .int .i64), (2, .sl)] [] [(6, .sl), (7, .int .i64)] [(6, 8), (9, 32)] (fun x w => spring_Spring_Draw_s0 K x.1 x.2.1 x.2.2.1 w)
theorem spring_Spring_Draw_s0_se_ok (K : Nat) (R : Rg) (h : subRB [(6, 8), (9, 32)] R = true) : (spring_Spring_Draw_s0_se K).Ok prog R (cd (bodyOf f8) [1, 0]) := stmt_ok (Li := [(0, .ptr), (1, .int .i64), (2, .sl)]) (Lo := []) (Lr := [(6, .sl), (7, .int .i64)]) (S := (fun x w => spring_Spring_Draw_s0 K x.1 x.2.1 x.2.2.1 w)) (spring_Spring_Draw_s0_ok K) (subR_of h)
theorem spring_Spring_Draw_s2_ok (K : Nat) : StmtNOk prog [(0, .ptr), (2, .sl), (33, .bool)] [] [(34, 37)] (fun x w => spring_Spring_Draw_s2 K x.1 x.2.1 x.2.2.1 w) (cd (bodyOf f8) [1, 1, 0, 1]) :=
    mk_stmtN (O := tabL []) (root := (bodyOf f8)) (π := [1, 1, 0, 1]) (Li := [(0, .ptr), (2, .sl), (33, .bool)]) (Lo := []) (S := (fun x w => spring_Spring_Draw_s2 K x.1 x.2.1 x.2.2.1 w)) (spring_Spring_Draw_Eok K) (spring_Spring_Draw_Rok K) rfl (Orc.nil _ _ _) (by kernel_rfl) (fun _ _ => by kernel_rfl)
noncomputable def spring_Spring_Draw_s2_se (K : Nat) : SE := stmtN [(0, .ptr), (2, .sl), (33, .bool)] [] [(34, 37)] (fun x w => spring_Spring_Draw_s2 K x.1 x.2.1 x.2.2.1 w)
theorem spring_Spring_Draw_s2_se_ok (K : Nat) (R : Rg) (h : subRB [(34, 37)] R = true) : (spring_Spring_Draw_s2_se K).Ok prog R (cd (bodyOf f8) [1, 1, 0, 1]) := stmtN_ok (Li := [(0, .ptr), (2, .sl), (33, .bool)]) (Lo := []) (S := (fun x w => spring_Spring_Draw_s2 K x.1 x.2.1 x.2.2.1 w)) (spring_Spring_Draw_s2_ok K) (subR_of h)
theorem spring_Spring_Draw_l3_ok (K : Nat) (n : Nat) : StmtNOk prog [(0, .ptr), (1, .int .i64), (2, .sl), (8, .sl)] [(8, .sl)] [(8, 9), (37, 57)] ((fun n x w => spring_Spring_Draw_l3 K n x.1 x.2.1 x.2.2.1 x.2.2.2.1 w) n) (.block 1 (.loop (cd (bodyOf f8) [1, 1, 1, 1, 0, 0, 0]))) :=
    mk_loopN (O := tabL []) (root := (bodyOf f8)) (π := [1, 1, 1, 1, 0, 0, 0]) (id := 1) (Li := [(0, .ptr), (1, .int .i64), (2, .sl), (8, .sl)]) (Lo := [(8, .sl)]) (S := (fun n x w => spring_Spring_Draw_l3 K n x.1 x.2.1 x.2.2.1 x.2.2.2.1 w)) (body := cd (bodyOf f8) [1, 1, 1, 1, 0, 0, 0]) (spring_Spring_Draw_Eok K) (spring_Spring_Draw_Rok K) rfl (Orc.nil _ _ _) (by kernel_rfl) (fun _ _ => by kernel_rfl) (fun _ _ _ => by kernel_rfl) n
noncomputable def spring_Spring_Draw_l3_se (K : Nat) : SE := stmtN [(0, .ptr), (1, .int .i64), (2, .sl), (8, .sl)] [(8, .sl)] [(8, 9), (37, 57)] (fun x w => spring_Spring_Draw_l3 K K x.1 x.2.1 x.2.2.1 x.2.2.2.1 w)
theorem spring_Spring_Draw_l3_se_ok (K : Nat) (R : Rg) (h : subRB [(8, 9), (37, 57)] R = true) : (spring_Spring_Draw_l3_se K).Ok prog R (.block 1 (.loop (cd (bodyOf f8) [1, 1, 1, 1, 0, 0, 0]))) := stmtN_ok (Li := [(0, .ptr), (1, .int .i64), (2, .sl), (8, .sl)]) (Lo := [(8, .sl)]) (S := (fun x w => spring_Spring_Draw_l3 K K x.1 x.2.1 x.2.2.1 x.2.2.2.1 w)) (spring_Spring_Draw_l3_ok K K) (subR_of h)
theorem spring_Spring_Draw_facts : FunFacts prog 8 f8 (bodyOf f8) [(0, .ptr), (1, .int .i64), (2, .sl)] [(0, 71)] := ⟨func8, by kernel_rfl, by kernel_rfl, by kernel_rfl, by kernel_rfl, by kernel_rfl⟩
theorem spring_Spring_Draw_calls (K : Nat) (x : TT [(0, .ptr), (1, .int .i64), (2, .sl)]) (w : World) (y : TR [.sl, .int .i64]) (w2 : World) (h : spring_Spring_Draw K x.1 x.2.1 x.2.2.1 w = some (y, w2)) : Calls prog 8 (encA [(0, .ptr), (1, .int .i64), (2, .sl)] x).toArray w (fun e w3 => e = .returned (resV (encR [.sl, .int .i64] y)) ∧ w3 = w2) :=
    mk_fun (O := tabL [([1, 0], spring_Spring_Draw_s0_se K), ([1, 0, 0, 1, 1, 1, 1, 0], spring_Spring_Draw_s1_se K), ([1, 1, 0, 1], spring_Spring_Draw_s2_se K), ([1, 1, 1, 1, 0], spring_Spring_Draw_l3_se K)]) (Lp := [(0, .ptr), (1, .int .i64), (2, .sl)]) (Rt := [.sl, .int .i64]) (S := (fun x w => spring_Spring_Draw K x.1 x.2.1 x.2.2.1 w)) (spring_Spring_Draw_Eok K) (spring_Spring_Draw_Rok K) rfl spring_Spring_Draw_facts (Orc.cons (by kernel_rfl) (spring_Spring_Draw_s0_se_ok K [(0, 71)] (by kernel_rfl)) (Orc.cons (by kernel_rfl) (spring_Spring_Draw_s1_se_ok K [(0, 71)] (by kernel_rfl)) (Orc.cons (by kernel_rfl) (spring_Spring_Draw_s2_se_ok K [(0, 71)] (by kernel_rfl)) (Orc.cons (by kernel_rfl) (spring_Spring_Draw_l3_se_ok K [(0, 71)] (by kernel_rfl)) (Orc.nil _ _ _))))) (fun _ _ => by kernel_rfl) x w y w2 h
noncomputable def spring_Spring_Draw_ce (K : Nat) : CE := funE [(0, .ptr), (1, .int .i64), (2, .sl)] [.sl, .int .i64] (fun x w => spring_Spring_Draw K x.1 x.2.1 x.2.2.1 w)
theorem spring_Spring_Draw_ok (K : Nat) : (spring_Spring_Draw_ce K).Ok prog 8 := funE_ok (Rt := [.sl, .int .i64]) (S := (fun x w => spring_Spring_Draw K x.1 x.2.1 x.2.2.1 w)) spring_Spring_Draw_facts fun x w y w2 h => spring_Spring_Draw_calls K x w y w2 h

noncomputable def spring_Spring_Left_E : List (Nat × CE) := []
theorem spring_Spring_Left_Eok : Env.Ok prog (tab (spring_Spring_Left_E)) := (Env.nil _)
noncomputable def spring_Spring_Left_R : List (Nat × RE) := []
theorem spring_Spring_Left_Rok : REnv.Ok prog (tab (spring_Spring_Left_R)) := (REnv.nil _)
/-- (*coffer/spring.Spring).Left -/
noncomputable def spring_Spring_Left (s0 : Option Addr) (w : World) : Option ((Int × Unit) × World) :=
  if s0.isNone = true then (some ((0, ()), w)) else ((s0).bind fun p_1 =>
  (s0).bind fun p_2 =>
  (ldI .i64 (p_1.add 1) w.drew).bind fun v_3 =>
  (ldI .i64 (p_2.add 2) w.drew).bind fun v_4 =>
  some (((IntKind.i64.wrap (v_3 - v_4)), ()), w.drew))
theorem spring_Spring_Left_facts : FunFacts prog 12 f12 (bodyOf f12) [(0, .ptr)] [(0, 14)] := ⟨func12, by kernel_rfl, by kernel_rfl, by kernel_rfl, by kernel_rfl, by kernel_rfl⟩
theorem spring_Spring_Left_calls (x : TT [(0, .ptr)]) (w : World) (y : TR [.int .i64]) (w2 : World) (h : spring_Spring_Left x.1 w = some (y, w2)) : Calls prog 12 (encA [(0, .ptr)] x).toArray w (fun e w3 => e = .returned (resV (encR [.int .i64] y)) ∧ w3 = w2) :=
    mk_fun (O := tabL []) (Lp := [(0, .ptr)]) (Rt := [.int .i64]) (S := (fun x w => spring_Spring_Left x.1 w)) (spring_Spring_Left_Eok) (spring_Spring_Left_Rok) rfl spring_Spring_Left_facts (Orc.nil _ _ _) (fun _ _ => by kernel_rfl) x w y w2 h
noncomputable def spring_Spring_Left_ce : CE := funE [(0, .ptr)] [.int .i64] (fun x w => spring_Spring_Left x.1 w)
theorem spring_Spring_Left_ok : (spring_Spring_Left_ce).Ok prog 12 := funE_ok (Rt := [.int .i64]) (S := (fun x w => spring_Spring_Left x.1 w)) spring_Spring_Left_facts fun x w y w2 h => spring_Spring_Left_calls x w y w2 h

noncomputable def law06_first_E (K : Nat) : List (Nat × CE) := [(14, spring_New_ce K), (8, spring_Spring_Draw_ce K), (12, spring_Spring_Left_ce)]
theorem law06_first_Eok (K : Nat) : Env.Ok prog (tab (law06_first_E K)) := (Env.cons (spring_New_ok K) (Env.cons (spring_Spring_Draw_ok K) (Env.cons (spring_Spring_Left_ok) (Env.nil _))))
noncomputable def law06_first_R (K : Nat) : List (Nat × RE) := [(10, law06_num_re)]
theorem law06_first_Rok (K : Nat) : REnv.Ok prog (tab (law06_first_R K)) := (REnv.cons (law06_num_ok) (REnv.nil _))
noncomputable def law06_first_s0 (K : Nat) (s1 : Option Addr) (e2 : Int) (w : World) : Option ((Bool × Unit) × World) :=
  (law06_num e2).bind fun r_8 =>
  if (r_8.1 != 0) = true then (some ((true, ()), w)) else (some ((s1.isNone, ()), w))
/-- coffer/cofferlaw06.first -/
noncomputable def law06_first {β : Type} (K : Nat)  (w : World) (k : (Bool × Unit) → World → Option β) : Option β :=
  bnd (bldS prog 22 16 #[(0, (.int .u8 48)), (1, (.int .u8 49)), (2, (.int .u8 50)), (3, (.int .u8 51)), (4, (.int .u8 52)), (5, (.int .u8 53)), (6, (.int .u8 54)), (7, (.int .u8 55)), (8, (.int .u8 56)), (9, (.int .u8 57)), (10, (.int .u8 97)), (11, (.int .u8 98)), (12, (.int .u8 99)), (13, (.int .u8 100)), (14, (.int .u8 101)), (15, (.int .u8 102))] w) fun s_1 w_2 =>
  bnd (cnv prog 22 22 (.slice s_1.a s_1.len s_1.cap) w_2) fun c_3 w_4 =>
  (asS c_3).bind fun v_5 =>
  spring_New K 256 1 v_5 ⟨none, 0, 0⟩ ⟨none, 0, 0⟩ w_4 fun r_6 w_7 =>
  bnd (law06_first_s0 K r_6.1 r_6.2.1 w_7) fun y_9 w_10 =>
  if y_9.1 = true then (k (false, ()) w_10) else (bnd (spring_Spring_Draw K r_6.1 5 ⟨none, 0, 0⟩ w_10) fun r_11 w_12 =>
  (law06_num r_11.2.1).bind fun r_13 =>
  if (r_13.1 == 0) = true then (if (((r_11.1.len : Nat) : Int) == 5) = true then (bnd (spring_Spring_Left r_6.1 w_12) fun r_14 w_15 =>
  k ((r_14.1 == 0), ()) w_15) else (k (false, ()) w_12)) else (k (false, ()) w_12))
theorem law06_first_s0_ok (K : Nat) : StmtNOk prog [(1, .ptr), (2, .int .i64)] [(17, .bool)] [(11, 18)] (fun x w => law06_first_s0 K x.1 x.2.1 w) (cd (bodyOf f7) [1, 1, 0, 0]) :=
    mk_stmtN (O := tabL []) (root := (bodyOf f7)) (π := [1, 1, 0, 0]) (Li := [(1, .ptr), (2, .int .i64)]) (Lo := [(17, .bool)]) (S := (fun x w => law06_first_s0 K x.1 x.2.1 w)) (law06_first_Eok K) (law06_first_Rok K) rfl (Orc.nil _ _ _) (by kernel_rfl) (fun _ _ => by kernel_rfl)
noncomputable def law06_first_s0_se (K : Nat) : SE := stmtN [(1, .ptr), (2, .int .i64)] [(17, .bool)] [(11, 18)] (fun x w => law06_first_s0 K x.1 x.2.1 w)
theorem law06_first_s0_se_ok (K : Nat) (R : Rg) (h : subRB [(11, 18)] R = true) : (law06_first_s0_se K).Ok prog R (cd (bodyOf f7) [1, 1, 0, 0]) := stmtN_ok (Li := [(1, .ptr), (2, .int .i64)]) (Lo := [(17, .bool)]) (S := (fun x w => law06_first_s0 K x.1 x.2.1 w)) (law06_first_s0_ok K) (subR_of h)
theorem law06_first_facts : FunFacts prog 7 f7 (bodyOf f7) [] [(0, 36)] := ⟨func7, by kernel_rfl, by kernel_rfl, by kernel_rfl, by kernel_rfl, by kernel_rfl⟩
theorem law06_first_calls (K : Nat) {β : Type} (x : TT []) (w : World) (k : TR [.bool] → World → Option β) (r : β) (h : law06_first K  w k = some r) : Calls prog 7 (encA [] x).toArray w (fun e w3 => ∃ y, e = .returned (resV (encR [.bool] y)) ∧ k y w3 = some r) :=
    mk_funC (O := tabL [([1, 1, 0, 0], law06_first_s0_se K)]) (Lp := []) (Rt := [.bool]) (S := (fun x w k => law06_first K  w k)) (law06_first_Eok K) (law06_first_Rok K) rfl law06_first_facts (Orc.cons (by kernel_rfl) (law06_first_s0_se_ok K [(0, 36)] (by kernel_rfl)) (Orc.nil _ _ _)) (fun _ _ _ => by kernel_rfl) x w k r h
noncomputable def law06_first_ce (K : Nat) : CE := funC [] [.bool] (fun {_} x w k => law06_first K  w k)
theorem law06_first_ok (K : Nat) : (law06_first_ce K).Ok prog 7 := funC_ok (Rt := [.bool]) (S := (fun {_} x w k => law06_first K  w k)) law06_first_facts fun x w k r h => law06_first_calls K x w k r h

noncomputable def ref06_Spring_Draw_E (K : Nat) : List (Nat × CE) := [(26, ref06_joined_ce K), (27, ref06_Spring_update_ce K), (28, ref01_Code_ce K)]
theorem ref06_Spring_Draw_Eok (K : Nat) : Env.Ok prog (tab (ref06_Spring_Draw_E K)) := (Env.cons (ref06_joined_ok K) (Env.cons (ref06_Spring_update_ok K) (Env.cons (ref01_Code_ok K) (Env.nil _))))
noncomputable def ref06_Spring_Draw_R (K : Nat) : List (Nat × RE) := []
theorem ref06_Spring_Draw_Rok (K : Nat) : REnv.Ok prog (tab (ref06_Spring_Draw_R K)) := (REnv.nil _)
noncomputable def ref06_Spring_Draw_s1 (K : Nat) (n1 : Int) (x8 : Sl) (w : World) : Option ((Bool × Unit) × World) :=
  if (decide (n1 > 65536)) = true then (some ((true, ()), w)) else (some (((decide (((x8.len : Nat) : Int) > 65536)), ()), w))
noncomputable def ref06_Spring_Draw_s0 (K : Nat) (s0 : Option Addr) (n1 : Int) (x8 : Sl) (w : World) : Option ((Out (Unit) (Sl × Int × Unit)) × World) :=
  if s0.isNone = true then (some (.ret (⟨none, 0, 0⟩, 1, ()), w)) else (if (decide (n1 < 0)) = true then (some (.ret (⟨none, 0, 0⟩, 2, ()), w)) else (bnd (ref06_Spring_Draw_s1 K n1 x8 w) fun y_3 w_4 =>
  if y_3.1 = true then (some (.ret (⟨none, 0, 0⟩, 4, ()), w_4)) else ((s0).bind fun p_5 =>
  (s0).bind fun p_6 =>
  (ldI .i64 (p_5.add 2) w_4.drew).bind fun v_7 =>
  (ldI .i64 (p_6.add 1) w_4.drew).bind fun v_8 =>
  if (v_7 == v_8) = true then (some (.ret (⟨none, 0, 0⟩, 61, ()), w_4.drew)) else (some (.norm (), w_4.drew)))))
noncomputable def ref06_Spring_Draw_s2 (K : Nat) (s0 : Option Addr) (x8 : Sl) (a38 : Bool) (w : World) : Option ((Unit) × World) :=
  if a38 = true then (bnd (ref06_Spring_update K s0 x8 w) fun r_12 w_13 =>
  some ((), w_13)) else (some ((), w))
noncomputable def ref06_Spring_Draw_l3_b (K : Nat) (rec : Option Addr → Int → Sl → Sl → World → Option ((Sl × Unit) × World)) (s0 : Option Addr) (n1 : Int) (x8 : Sl) (out9 : Sl) (w : World) : Option ((Sl × Unit) × World) :=
  if (decide (((out9.len : Nat) : Int) < n1)) = true then ((s0).bind fun p_16 =>
  (s0).bind fun p_17 =>
  (s0).bind fun p_18 =>
  (ldI .i64 (p_16.add 0) w.drew).bind fun v_19 =>
  (ldS (p_17.add 3) w.drew).bind fun v_20 =>
  (ldS (p_18.add 4) w.drew).bind fun v_21 =>
  bnd (ref01_Code K v_19 v_20 v_21 w.drew) fun r_22 w_23 =>
  (s0).bind fun p_24 =>
  (stC (p_24.add 4) (.slice r_22.1.a r_22.1.len r_22.1.cap) w_23).bind fun w_25 =>
  (s0).bind fun p_26 =>
  (ldS (p_26.add 4) w_25).bind fun v_27 =>
  bnd (apd prog 22 22 (.slice out9.a out9.len out9.cap) (.slice v_27.a v_27.len v_27.cap) w_25) fun s_28 w_29 =>
  rec s0 n1 x8 s_28 w_29) else (some ((out9, ()), w))
noncomputable def ref06_Spring_Draw_l3 (K : Nat) (n : Nat) : Option Addr → Int → Sl → Sl → World → Option ((Sl × Unit) × World) := iter (fun _ _ _ _ _ => none) (ref06_Spring_Draw_l3_b K) n
/-- (*coffer/cofferref06.Spring).Draw -/
noncomputable def ref06_Spring_Draw (K : Nat) (s0 : Option Addr) (n1 : Int) (extra2 : Sl) (w : World) : Option ((Sl × Int × Unit) × World) :=
  bnd (ref06_joined K extra2 w) fun r_1 w_2 =>
  bnd (ref06_Spring_Draw_s0 K s0 n1 r_1.1 w_2) fun y_9 w_10 =>
  (match y_9 with
  | .norm z_11n => (bnd (ref06_Spring_Draw_s2 K s0 r_1.1 (decide (((r_1.1.len : Nat) : Int) > 0)) w_10) fun y_14 w_15 =>
  bnd (ref06_Spring_Draw_l3 K K s0 n1 r_1.1 ⟨none, 0, 0⟩ w_15) fun y_30 w_31 =>
  bnd (ref06_Spring_update K s0 r_1.1 w_31) fun r_32 w_33 =>
  (s0).bind fun p_34 =>
  (ldI .i64 (p_34.add 2) w_33).bind fun v_35 =>
  (s0).bind fun p_36 =>
  (stC (p_36.add 2) (.int .i64 (IntKind.i64.wrap (v_35 + 1))) w_33).bind fun w_37 =>
  if (0 : Int) ≤ n1 ∧ n1 ≤ ((y_30.1.cap : Nat) : Int) then (some ((⟨(sla y_30.1.a 0 y_30.1.cap 1), ((Int.toNat (n1)) - 0), (y_30.1.cap - 0)⟩, 0, ()), w_37)) else none)
  | .ret z_11r => (some ((z_11r.1, z_11r.2.1, ()), w_10)))
theorem ref06_Spring_Draw_s1_ok (K : Nat) : StmtNOk prog [(1, .int .i64), (8, .sl)] [(18, .bool)] [(18, 26)] (fun x w => ref06_Spring_Draw_s1 K x.1 x.2.1 w) (cd (bodyOf f9) [1, 1, 0, 0, 1, 1, 1, 1, 0]) :=
    mk_stmtN (O := tabL []) (root := (bodyOf f9)) (π := [1, 1, 0, 0, 1, 1, 1, 1, 0]) (Li := [(1, .int .i64), (8, .sl)]) (Lo := [(18, .bool)]) (S := (fun x w => ref06_Spring_Draw_s1 K x.1 x.2.1 w)) (ref06_Spring_Draw_Eok K) (ref06_Spring_Draw_Rok K) rfl (Orc.nil _ _ _) (by kernel_rfl) (fun _ _ => by kernel_rfl)
noncomputable def ref06_Spring_Draw_s1_se (K : Nat) : SE := stmtN [(1, .int .i64), (8, .sl)] [(18, .bool)] [(18, 26)] (fun x w => ref06_Spring_Draw_s1 K x.1 x.2.1 w)
theorem ref06_Spring_Draw_s1_se_ok (K : Nat) (R : Rg) (h : subRB [(18, 26)] R = true) : (ref06_Spring_Draw_s1_se K).Ok prog R (cd (bodyOf f9) [1, 1, 0, 0, 1, 1, 1, 1, 0]) := stmtN_ok (Li := [(1, .int .i64), (8, .sl)]) (Lo := [(18, .bool)]) (S := (fun x w => ref06_Spring_Draw_s1 K x.1 x.2.1 w)) (ref06_Spring_Draw_s1_ok K) (subR_of h)
theorem ref06_Spring_Draw_s0_ok (K : Nat) : StmtOk prog [(0, .ptr), (1, .int .i64), (8, .sl)] [] [(6, .sl), (7, .int .i64)] [(6, 8), (12, 36)] (fun x w => ref06_Spring_Draw_s0 K x.1 x.2.1 x.2.2.1 w) (cd (bodyOf f9) [1, 1, 0]) :=
    mk_stmt (O := tabL [([1, 1, 0, 0, 1, 1, 1, 1, 0], ref06_Spring_Draw_s1_se K)]) (root := (bodyOf f9)) (π := [1, 1, 0]) (Li := [(0, .ptr), (1, .int .i64), (8, .sl)]) (Lo := []) (Lr := [(6, .sl), (7, .int .i64)]) (S := (fun x w => ref06_Spring_Draw_s0 K x.1 x.2.1 x.2.2.1 w)) (ref06_Spring_Draw_Eok K) (ref06_Spring_Draw_Rok K) rfl (Orc.cons (by kernel_rfl) (ref06_Spring_Draw_s1_se_ok K [(6, 8), (12, 36)] (by kernel_rfl)) (Orc.nil _ _ _)) (by kernel_rfl) (fun _ _ => by kernel_rfl)
noncomputable def ref06_Spring_Draw_s0_se (K : Nat) : SE := stmt [(0, .ptr), (1, .int .i64), (8, .sl)] [] [(6, .sl), (7, .int .i64)] [(6, 8), (12, 36)] (fun x w => ref06_Spring_Draw_s0 K x.1 x.2.1 x.2.2.1 w)
theorem ref06_Spring_Draw_s0_se_ok (K : Nat) (R : Rg) (h : subRB [(6, 8), (12, 36)] R = true) : (ref06_Spring_Draw_s0_se K).Ok prog R (cd (bodyOf f9) [1, 1, 0]) := stmt_ok (Li := [(0, .ptr), (1, .int .i64), (8, .sl)]) (Lo := []) (Lr := [(6, .sl), (7, .int .i64)]) (S := (fun x w => ref06_Spring_Draw_s0 K x.1 x.2.1 x.2.2.1 w)) (ref06_Spring_Draw_s0_ok K) (subR_of h)
theorem ref06_Spring_Draw_s2_ok (K : Nat) : StmtNOk prog [(0, .ptr), (8, .sl), (38, .bool)] [] [(39, 42)] (fun x w => ref06_Spring_Draw_s2 K x.1 x.2.1 x.2.2.1 w) (cd (bodyOf f9) [1, 1, 1, 0, 1]) :=
    mk_stmtN (O := tabL []) (root := (bodyOf f9)) (π := [1, 1, 1, 0, 1]) (Li := [(0, .ptr), (8, .sl), (38, .bool)]) (Lo := []) (S := (fun x w => ref06_Spring_Draw_s2 K x.1 x.2.1 x.2.2.1 w)) (ref06_Spring_Draw_Eok K) (ref06_Spring_Draw_Rok K) rfl (Orc.nil _ _ _) (by kernel_rfl) (fun _ _ => by kernel_rfl)
noncomputable def ref06_Spring_Draw_s2_se (K : Nat) : SE := stmtN [(0, .ptr), (8, .sl), (38, .bool)] [] [(39, 42)] (fun x w => ref06_Spring_Draw_s2 K x.1 x.2.1 x.2.2.1 w)
theorem ref06_Spring_Draw_s2_se_ok (K : Nat) (R : Rg) (h : subRB [(39, 42)] R = true) : (ref06_Spring_Draw_s2_se K).Ok prog R (cd (bodyOf f9) [1, 1, 1, 0, 1]) := stmtN_ok (Li := [(0, .ptr), (8, .sl), (38, .bool)]) (Lo := []) (S := (fun x w => ref06_Spring_Draw_s2 K x.1 x.2.1 x.2.2.1 w)) (ref06_Spring_Draw_s2_ok K) (subR_of h)
theorem ref06_Spring_Draw_l3_ok (K : Nat) (n : Nat) : StmtNOk prog [(0, .ptr), (1, .int .i64), (8, .sl), (9, .sl)] [(9, .sl)] [(9, 10), (42, 68)] ((fun n x w => ref06_Spring_Draw_l3 K n x.1 x.2.1 x.2.2.1 x.2.2.2.1 w) n) (.block 1 (.loop (cd (bodyOf f9) [1, 1, 1, 1, 1, 0, 0, 0]))) :=
    mk_loopN (O := tabL []) (root := (bodyOf f9)) (π := [1, 1, 1, 1, 1, 0, 0, 0]) (id := 1) (Li := [(0, .ptr), (1, .int .i64), (8, .sl), (9, .sl)]) (Lo := [(9, .sl)]) (S := (fun n x w => ref06_Spring_Draw_l3 K n x.1 x.2.1 x.2.2.1 x.2.2.2.1 w)) (body := cd (bodyOf f9) [1, 1, 1, 1, 1, 0, 0, 0]) (ref06_Spring_Draw_Eok K) (ref06_Spring_Draw_Rok K) rfl (Orc.nil _ _ _) (by kernel_rfl) (fun _ _ => by kernel_rfl) (fun _ _ _ => by kernel_rfl) n
noncomputable def ref06_Spring_Draw_l3_se (K : Nat) : SE := stmtN [(0, .ptr), (1, .int .i64), (8, .sl), (9, .sl)] [(9, .sl)] [(9, 10), (42, 68)] (fun x w => ref06_Spring_Draw_l3 K K x.1 x.2.1 x.2.2.1 x.2.2.2.1 w)
theorem ref06_Spring_Draw_l3_se_ok (K : Nat) (R : Rg) (h : subRB [(9, 10), (42, 68)] R = true) : (ref06_Spring_Draw_l3_se K).Ok prog R (.block 1 (.loop (cd (bodyOf f9) [1, 1, 1, 1, 1, 0, 0, 0]))) := stmtN_ok (Li := [(0, .ptr), (1, .int .i64), (8, .sl), (9, .sl)]) (Lo := [(9, .sl)]) (S := (fun x w => ref06_Spring_Draw_l3 K K x.1 x.2.1 x.2.2.1 x.2.2.2.1 w)) (ref06_Spring_Draw_l3_ok K K) (subR_of h)
theorem ref06_Spring_Draw_facts : FunFacts prog 9 f9 (bodyOf f9) [(0, .ptr), (1, .int .i64), (2, .sl)] [(0, 81)] := ⟨func9, by kernel_rfl, by kernel_rfl, by kernel_rfl, by kernel_rfl, by kernel_rfl⟩
theorem ref06_Spring_Draw_calls (K : Nat) (x : TT [(0, .ptr), (1, .int .i64), (2, .sl)]) (w : World) (y : TR [.sl, .int .i64]) (w2 : World) (h : ref06_Spring_Draw K x.1 x.2.1 x.2.2.1 w = some (y, w2)) : Calls prog 9 (encA [(0, .ptr), (1, .int .i64), (2, .sl)] x).toArray w (fun e w3 => e = .returned (resV (encR [.sl, .int .i64] y)) ∧ w3 = w2) :=
    mk_fun (O := tabL [([1, 1, 0], ref06_Spring_Draw_s0_se K), ([1, 1, 0, 0, 1, 1, 1, 1, 0], ref06_Spring_Draw_s1_se K), ([1, 1, 1, 0, 1], ref06_Spring_Draw_s2_se K), ([1, 1, 1, 1, 1, 0], ref06_Spring_Draw_l3_se K)]) (Lp := [(0, .ptr), (1, .int .i64), (2, .sl)]) (Rt := [.sl, .int .i64]) (S := (fun x w => ref06_Spring_Draw K x.1 x.2.1 x.2.2.1 w)) (ref06_Spring_Draw_Eok K) (ref06_Spring_Draw_Rok K) rfl ref06_Spring_Draw_facts (Orc.cons (by kernel_rfl) (ref06_Spring_Draw_s0_se_ok K [(0, 81)] (by kernel_rfl)) (Orc.cons (by kernel_rfl) (ref06_Spring_Draw_s1_se_ok K [(0, 81)] (by kernel_rfl)) (Orc.cons (by kernel_rfl) (ref06_Spring_Draw_s2_se_ok K [(0, 81)] (by kernel_rfl)) (Orc.cons (by kernel_rfl) (ref06_Spring_Draw_l3_se_ok K [(0, 81)] (by kernel_rfl)) (Orc.nil _ _ _))))) (fun _ _ => by kernel_rfl) x w y w2 h
noncomputable def ref06_Spring_Draw_ce (K : Nat) : CE := funE [(0, .ptr), (1, .int .i64), (2, .sl)] [.sl, .int .i64] (fun x w => ref06_Spring_Draw K x.1 x.2.1 x.2.2.1 w)
theorem ref06_Spring_Draw_ok (K : Nat) : (ref06_Spring_Draw_ce K).Ok prog 9 := funE_ok (Rt := [.sl, .int .i64]) (S := (fun x w => ref06_Spring_Draw K x.1 x.2.1 x.2.2.1 w)) ref06_Spring_Draw_facts fun x w y w2 h => ref06_Spring_Draw_calls K x w y w2 h

noncomputable def law06_SpringNews_E (K : Nat) : List (Nat × CE) := [(6, law06_begun_ce K), (7, law06_first_ce K), (8, spring_Spring_Draw_ce K), (9, ref06_Spring_Draw_ce K), (11, book_SameBytes_ce K), (12, spring_Spring_Left_ce)]
theorem law06_SpringNews_Eok (K : Nat) : Env.Ok prog (tab (law06_SpringNews_E K)) := (Env.cons (law06_begun_ok K) (Env.cons (law06_first_ok K) (Env.cons (spring_Spring_Draw_ok K) (Env.cons (ref06_Spring_Draw_ok K) (Env.cons (book_SameBytes_ok K) (Env.cons (spring_Spring_Left_ok) (Env.nil _)))))))
noncomputable def law06_SpringNews_R (K : Nat) : List (Nat × RE) := [(10, law06_num_re)]
theorem law06_SpringNews_Rok (K : Nat) : REnv.Ok prog (tab (law06_SpringNews_R K)) := (REnv.cons (law06_num_ok) (REnv.nil _))
noncomputable def law06_SpringNews_s0 (K : Nat) (s3 : Option Addr) (ok5 : Bool) (w : World) : Option ((Bool × Unit) × World) :=
  if (!ok5) = true then (some ((true, ()), w)) else (some ((s3.isNone, ()), w))
noncomputable def law06_SpringNews_s1 (K : Nat) (c1 : Addr) (a2 : Bool) (s3 : Option Addr) (a6 : Sl) (e7 : Int) (b8 : Sl) (f9 : Int) (w : World) : Option ((Bool × Unit) × World) :=
  (law06_num e7).bind fun r_17 =>
  if (r_17.1 == f9) = true then (bnd (book_SameBytes K a6 b8 w.drew) fun r_18 w_19 =>
  if r_18.1 = true then ((ldI .i64 (c1.add 1) w_19).bind fun v_20 =>
  bnd (spring_Spring_Left s3 w_19) fun r_21 w_22 =>
  (ldI .i64 (c1.add 1) w_22).bind fun v_23 =>
  sameK (.int .i64 v_20) (.int .i64 v_23) (some (((r_21.1 == (IntKind.i64.wrap (v_20 - 1))), ()), w_22))) else (some ((false, ()), w_19))) else (some ((false, ()), w.drew))
/-- coffer/cofferlaw06.SpringNews -/
noncomputable def law06_SpringNews {β : Type} (K : Nat) (c0 : Array Value) (w : World) (k : (Bool × Unit) → World → Option β) : Option β :=
  bnd (newB c0 24 w) fun p_1 w_2 =>
  (ldS (p_1.add 2) w_2).bind fun v_3 =>
  (ldS (p_1.add 3) w_2).bind fun v_4 =>
  (ldS (p_1.add 4) w_2).bind fun v_5 =>
  if (decide ((IntKind.i64.wrap ((IntKind.i64.wrap (((v_3.len : Nat) : Int) + ((v_4.len : Nat) : Int))) + ((v_5.len : Nat) : Int))) > 262144)) = true then (k (true, ()) w_2) else ((ldA 5 p_1 w_2).bind fun v_6 =>
  law06_begun K v_6 w_2 fun r_7 w_8 =>
  bnd (law06_SpringNews_s0 K r_7.1 r_7.2.2.1 w_8) fun y_9 w_10 =>
  if y_9.1 = true then (if r_7.2.2.1 = true then (law06_first K  w_10 fun r_11 w_12 =>
  k (r_11.1, ()) w_12) else (k (false, ()) w_10)) else (bnd (spring_Spring_Draw K r_7.1 40 ⟨none, 0, 0⟩ w_10) fun r_13 w_14 =>
  bnd (ref06_Spring_Draw K r_7.2.1 40 ⟨none, 0, 0⟩ w_14) fun r_15 w_16 =>
  bnd (law06_SpringNews_s1 K p_1 false r_7.1 r_13.1 r_13.2.1 r_15.1 r_15.2.1 w_16) fun y_24 w_25 =>
  k (y_24.1, ()) w_25))
theorem law06_SpringNews_s0_ok (K : Nat) : StmtNOk prog [(3, .ptr), (5, .bool)] [(33, .bool)] [(28, 34)] (fun x w => law06_SpringNews_s0 K x.1 x.2.1 w) (cd (bodyOf f3) [1, 1, 1, 0, 0]) :=
    mk_stmtN (O := tabL []) (root := (bodyOf f3)) (π := [1, 1, 1, 0, 0]) (Li := [(3, .ptr), (5, .bool)]) (Lo := [(33, .bool)]) (S := (fun x w => law06_SpringNews_s0 K x.1 x.2.1 w)) (law06_SpringNews_Eok K) (law06_SpringNews_Rok K) rfl (Orc.nil _ _ _) (by kernel_rfl) (fun _ _ => by kernel_rfl)
noncomputable def law06_SpringNews_s0_se (K : Nat) : SE := stmtN [(3, .ptr), (5, .bool)] [(33, .bool)] [(28, 34)] (fun x w => law06_SpringNews_s0 K x.1 x.2.1 w)
theorem law06_SpringNews_s0_se_ok (K : Nat) (R : Rg) (h : subRB [(28, 34)] R = true) : (law06_SpringNews_s0_se K).Ok prog R (cd (bodyOf f3) [1, 1, 1, 0, 0]) := stmtN_ok (Li := [(3, .ptr), (5, .bool)]) (Lo := [(33, .bool)]) (S := (fun x w => law06_SpringNews_s0 K x.1 x.2.1 w)) (law06_SpringNews_s0_ok K) (subR_of h)
theorem law06_SpringNews_s1_ok (K : Nat) : StmtNOk prog [(1, .addr), (2, .bool), (3, .ptr), (6, .sl), (7, .int .i64), (8, .sl), (9, .int .i64)] [(2, .bool)] [(2, 3), (48, 65)] (fun x w => law06_SpringNews_s1 K x.1 x.2.1 x.2.2.1 x.2.2.2.1 x.2.2.2.2.1 x.2.2.2.2.2.1 x.2.2.2.2.2.2.1 w) (cd (bodyOf f3) [1, 1, 1, 1, 1, 1, 0]) :=
    mk_regionH (R := [(2, 3), (48, 65)]) (Li := [(1, .addr), (2, .bool), (3, .ptr), (6, .sl), (7, .int .i64), (8, .sl), (9, .int .i64)]) (Lo := [(2, .bool)]) (S := (fun x w => law06_SpringNews_s1 K x.1 x.2.1 x.2.2.1 x.2.2.2.1 x.2.2.2.2.1 x.2.2.2.2.2.1 x.2.2.2.2.2.2.1 w)) (law06_SpringNews_Eok K) (law06_SpringNews_Rok K) rfl (fun _ _ => by kernel_rfl)
noncomputable def law06_SpringNews_s1_se (K : Nat) : SE := stmtN [(1, .addr), (2, .bool), (3, .ptr), (6, .sl), (7, .int .i64), (8, .sl), (9, .int .i64)] [(2, .bool)] [(2, 3), (48, 65)] (fun x w => law06_SpringNews_s1 K x.1 x.2.1 x.2.2.1 x.2.2.2.1 x.2.2.2.2.1 x.2.2.2.2.2.1 x.2.2.2.2.2.2.1 w)
theorem law06_SpringNews_s1_se_ok (K : Nat) (R : Rg) (h : subRB [(2, 3), (48, 65)] R = true) : (law06_SpringNews_s1_se K).Ok prog R (cd (bodyOf f3) [1, 1, 1, 1, 1, 1, 0]) := stmtN_ok (Li := [(1, .addr), (2, .bool), (3, .ptr), (6, .sl), (7, .int .i64), (8, .sl), (9, .int .i64)]) (Lo := [(2, .bool)]) (S := (fun x w => law06_SpringNews_s1 K x.1 x.2.1 x.2.2.1 x.2.2.2.1 x.2.2.2.2.1 x.2.2.2.2.2.1 x.2.2.2.2.2.2.1 w)) (law06_SpringNews_s1_ok K) (subR_of h)
theorem law06_SpringNews_facts : FunFacts prog 3 f3 (bodyOf f3) [(0, .agg)] [(0, 65)] := ⟨func3, by kernel_rfl, by kernel_rfl, by kernel_rfl, by kernel_rfl, by kernel_rfl⟩
theorem law06_SpringNews_calls (K : Nat) {β : Type} (x : TT [(0, .agg)]) (w : World) (k : TR [.bool] → World → Option β) (r : β) (h : law06_SpringNews K x.1 w k = some r) : Calls prog 3 (encA [(0, .agg)] x).toArray w (fun e w3 => ∃ y, e = .returned (resV (encR [.bool] y)) ∧ k y w3 = some r) :=
    mk_funC (O := tabL [([1, 1, 1, 0, 0], law06_SpringNews_s0_se K), ([1, 1, 1, 1, 1, 1, 0], law06_SpringNews_s1_se K)]) (Lp := [(0, .agg)]) (Rt := [.bool]) (S := (fun x w k => law06_SpringNews K x.1 w k)) (law06_SpringNews_Eok K) (law06_SpringNews_Rok K) rfl law06_SpringNews_facts (Orc.cons (by kernel_rfl) (law06_SpringNews_s0_se_ok K [(0, 65)] (by kernel_rfl)) (Orc.cons (by kernel_rfl) (law06_SpringNews_s1_se_ok K [(0, 65)] (by kernel_rfl)) (Orc.nil _ _ _))) (fun _ _ _ => by kernel_rfl) x w k r h
noncomputable def law06_SpringNews_ce (K : Nat) : CE := funC [(0, .agg)] [.bool] (fun {_} x w k => law06_SpringNews K x.1 w k)
theorem law06_SpringNews_ok (K : Nat) : (law06_SpringNews_ce K).Ok prog 3 := funC_ok (Rt := [.bool]) (S := (fun {_} x w k => law06_SpringNews K x.1 w k)) law06_SpringNews_facts fun x w k r h => law06_SpringNews_calls K x w k r h

end Go.Sh
