/- What functions of the program do, as Lean functions; that the machine does just that. Printed by shal.py, a program of this claim's writer. -/
import Derived.Test.YtgmdbhckccmhjaaDoorSh2
set_option maxRecDepth 100000
set_option linter.unusedVariables false
namespace Go.Sh
open Go.Fw Go.Proofs.Tryd

noncomputable def ref01_taken64_E (K : Nat) : List (Nat × CE) := []
theorem ref01_taken64_Eok (K : Nat) : Env.Ok prog (tab (ref01_taken64_E K)) := (Env.nil _)
noncomputable def ref01_taken64_R (K : Nat) : List (Nat × RE) := []
theorem ref01_taken64_Rok (K : Nat) : REnv.Ok prog (tab (ref01_taken64_R K)) := (REnv.nil _)
noncomputable def ref01_taken64_l1_b (K : Nat) (rec : Sl → Addr → Addr → Addr → Int → Int → World → Option ((Unit) × World)) (block1 : Sl) (h2 : Addr) (a4 : Addr) (w5 : Addr) (t6 : Int) (i7 : Int) (w : World) : Option ((Unit) × World) :=
  if (decide (i7 < 8)) = true then (if (0 : Int) ≤ t6 ∧ t6 < ((80 : Nat) : Int) then ((block1.a).bind fun p_7 =>
  if (0 : Int) ≤ (IntKind.i64.wrap ((IntKind.i64.wrap (8 * t6)) + i7)) ∧ (IntKind.i64.wrap ((IntKind.i64.wrap (8 * t6)) + i7)) < ((block1.len : Nat) : Int) then ((ldI .u64 (w5.add ((Int.toNat t6) * 1)) w.drew).bind fun v_8 =>
  (ldI .u8 (p_7.add ((Int.toNat (IntKind.i64.wrap ((IntKind.i64.wrap (8 * t6)) + i7))) * 1)) w.drew).bind fun v_9 =>
  if (0 : Int) ≤ t6 ∧ t6 < ((80 : Nat) : Int) then ((stC (w5.add ((Int.toNat t6) * 1)) (.int .u64 (bits .or .u64 (IntKind.u64.wrap (v_8 * 2 ^ 8)) (IntKind.u64.wrap v_9))) w.drew).bind fun w_10 =>
  rec block1 h2 a4 w5 t6 (IntKind.i64.wrap (i7 + 1)) w_10) else none) else none) else none) else (some ((), w))
noncomputable def ref01_taken64_l1 (K : Nat) (n : Nat) : Sl → Addr → Addr → Addr → Int → Int → World → Option ((Unit) × World) := iter (fun _ _ _ _ _ _ _ => none) (ref01_taken64_l1_b K) n
noncomputable def ref01_taken64_l0_b (K : Nat) (rec : Sl → Addr → Addr → Addr → Int → World → Option ((Unit) × World)) (block1 : Sl) (h2 : Addr) (a4 : Addr) (w5 : Addr) (t6 : Int) (w : World) : Option ((Unit) × World) :=
  if (decide (t6 < 16)) = true then (bnd (ref01_taken64_l1 K K block1 h2 a4 w5 t6 0 w) fun y_11 w_12 =>
  rec block1 h2 a4 w5 (IntKind.i64.wrap (t6 + 1)) w_12) else (some ((), w))
noncomputable def ref01_taken64_l0 (K : Nat) (n : Nat) : Sl → Addr → Addr → Addr → Int → World → Option ((Unit) × World) := iter (fun _ _ _ _ _ _ => none) (ref01_taken64_l0_b K) n
noncomputable def ref01_taken64_l2_b (K : Nat) (rec : Addr → Addr → Addr → Int → World → Option ((Unit) × World)) (h2 : Addr) (a4 : Addr) (w5 : Addr) (t8 : Int) (w : World) : Option ((Unit) × World) :=
  if (decide (t8 < 80)) = true then (if (0 : Int) ≤ (IntKind.i64.wrap (t8 - 15)) ∧ (IntKind.i64.wrap (t8 - 15)) < ((80 : Nat) : Int) then ((ldI .u64 (w5.add ((Int.toNat (IntKind.i64.wrap (t8 - 15))) * 1)) w).bind fun v_15 =>
  if (0 : Int) ≤ (IntKind.i64.wrap (t8 - 2)) ∧ (IntKind.i64.wrap (t8 - 2)) < ((80 : Nat) : Int) then ((ldI .u64 (w5.add ((Int.toNat (IntKind.i64.wrap (t8 - 2))) * 1)) w).bind fun v_16 =>
  if (0 : Int) ≤ (IntKind.i64.wrap (t8 - 7)) ∧ (IntKind.i64.wrap (t8 - 7)) < ((80 : Nat) : Int) then (if (0 : Int) ≤ (IntKind.i64.wrap (t8 - 16)) ∧ (IntKind.i64.wrap (t8 - 16)) < ((80 : Nat) : Int) then ((ldI .u64 (w5.add ((Int.toNat (IntKind.i64.wrap (t8 - 7))) * 1)) w.drew).bind fun v_17 =>
  (ldI .u64 (w5.add ((Int.toNat (IntKind.i64.wrap (t8 - 16))) * 1)) w.drew).bind fun v_18 =>
  if (0 : Int) ≤ t8 ∧ t8 < ((80 : Nat) : Int) then ((stC (w5.add ((Int.toNat t8) * 1)) (.int .u64 (IntKind.u64.wrap ((IntKind.u64.wrap ((IntKind.u64.wrap ((bits .xor .u64 (bits .xor .u64 (bits .or .u64 (Int.fdiv v_16 (2 ^ 19)) (IntKind.u64.wrap (v_16 * 2 ^ 45))) (bits .or .u64 (Int.fdiv v_16 (2 ^ 61)) (IntKind.u64.wrap (v_16 * 2 ^ 3)))) (Int.fdiv v_16 (2 ^ 6))) + v_17)) + (bits .xor .u64 (bits .xor .u64 (bits .or .u64 (Int.fdiv v_15 (2 ^ 1)) (IntKind.u64.wrap (v_15 * 2 ^ 63))) (bits .or .u64 (Int.fdiv v_15 (2 ^ 8)) (IntKind.u64.wrap (v_15 * 2 ^ 56)))) (Int.fdiv v_15 (2 ^ 7))))) + v_18))) w.drew).bind fun w_19 =>
  rec h2 a4 w5 (IntKind.i64.wrap (t8 + 1)) w_19) else none) else none) else none) else none) else none) else (some ((), w))
noncomputable def ref01_taken64_l2 (K : Nat) (n : Nat) : Addr → Addr → Addr → Int → World → Option ((Unit) × World) := iter (fun _ _ _ _ _ => none) (ref01_taken64_l2_b K) n
noncomputable def ref01_taken64_l3_b (K : Nat) (rec : Addr → Addr → Addr → Int → Int → Int → Int → Int → Int → Int → Int → Int → World → Option ((Int × Int × Int × Int × Int × Int × Int × Int × Unit) × World)) (h2 : Addr) (a4 : Addr) (w5 : Addr) (a13 : Int) (b14 : Int) (c15 : Int) (d16 : Int) (e17 : Int) (f18 : Int) (g19 : Int) (z20 : Int) (t21 : Int) (w : World) : Option ((Int × Int × Int × Int × Int × Int × Int × Int × Unit) × World) :=
  if (decide (t21 < 80)) = true then (if (0 : Int) ≤ t21 ∧ t21 < ((80 : Nat) : Int) then (if (0 : Int) ≤ t21 ∧ t21 < ((80 : Nat) : Int) then ((ldI .u64 ((⟨1, 0, none⟩ : Addr).add ((Int.toNat t21) * 1)) w.drew).bind fun v_30 =>
  (ldI .u64 (w5.add ((Int.toNat t21) * 1)) w.drew).bind fun v_31 =>
  rec h2 a4 w5 (IntKind.u64.wrap ((IntKind.u64.wrap ((IntKind.u64.wrap ((IntKind.u64.wrap ((IntKind.u64.wrap (z20 + (bits .xor .u64 (bits .xor .u64 (bits .or .u64 (Int.fdiv e17 (2 ^ 14)) (IntKind.u64.wrap (e17 * 2 ^ 50))) (bits .or .u64 (Int.fdiv e17 (2 ^ 18)) (IntKind.u64.wrap (e17 * 2 ^ 46)))) (bits .or .u64 (Int.fdiv e17 (2 ^ 41)) (IntKind.u64.wrap (e17 * 2 ^ 23)))))) + (bits .or .u64 (bits .and .u64 e17 f18) (bits .and .u64 (bits .xor .u64 IntKind.u64.max e17) g19)))) + v_30)) + v_31)) + (IntKind.u64.wrap ((bits .xor .u64 (bits .xor .u64 (bits .or .u64 (Int.fdiv a13 (2 ^ 28)) (IntKind.u64.wrap (a13 * 2 ^ 36))) (bits .or .u64 (Int.fdiv a13 (2 ^ 34)) (IntKind.u64.wrap (a13 * 2 ^ 30)))) (bits .or .u64 (Int.fdiv a13 (2 ^ 39)) (IntKind.u64.wrap (a13 * 2 ^ 25)))) + (bits .or .u64 (bits .or .u64 (bits .and .u64 a13 b14) (bits .and .u64 a13 c15)) (bits .and .u64 b14 c15)))))) a13 b14 c15 (IntKind.u64.wrap (d16 + (IntKind.u64.wrap ((IntKind.u64.wrap ((IntKind.u64.wrap ((IntKind.u64.wrap (z20 + (bits .xor .u64 (bits .xor .u64 (bits .or .u64 (Int.fdiv e17 (2 ^ 14)) (IntKind.u64.wrap (e17 * 2 ^ 50))) (bits .or .u64 (Int.fdiv e17 (2 ^ 18)) (IntKind.u64.wrap (e17 * 2 ^ 46)))) (bits .or .u64 (Int.fdiv e17 (2 ^ 41)) (IntKind.u64.wrap (e17 * 2 ^ 23)))))) + (bits .or .u64 (bits .and .u64 e17 f18) (bits .and .u64 (bits .xor .u64 IntKind.u64.max e17) g19)))) + v_30)) + v_31)))) e17 f18 g19 (IntKind.i64.wrap (t21 + 1)) w.drew) else none) else none) else (some ((a13, b14, c15, d16, e17, f18, g19, z20, ()), w))
noncomputable def ref01_taken64_l3 (K : Nat) (n : Nat) : Addr → Addr → Addr → Int → Int → Int → Int → Int → Int → Int → Int → Int → World → Option ((Int × Int × Int × Int × Int × Int × Int × Int × Unit) × World) := iter (fun _ _ _ _ _ _ _ _ _ _ _ _ _ => none) (ref01_taken64_l3_b K) n
/-- coffer/cofferref01.taken64 -/
noncomputable def ref01_taken64 (K : Nat) (h0 : Array Value) (block1 : Sl) (w : World) : Option (((Array Value) × Unit) × World) :=
  bnd (newB h0 80 w) fun p_1 w_2 =>
  bnd (newB z80 80 w_2) fun p_3 w_4 =>
  bnd (newB z125 125 w_4) fun w_5 w_6 =>
  bnd (ref01_taken64_l0 K K block1 p_1 p_3 w_5 0 w_6) fun y_13 w_14 =>
  bnd (ref01_taken64_l2 K K p_1 p_3 w_5 16 w_14) fun y_20 w_21 =>
  (ldI .u64 (p_1.add (0 * 1)) w_21.drew).bind fun v_22 =>
  (ldI .u64 (p_1.add (1 * 1)) w_21.drew).bind fun v_23 =>
  (ldI .u64 (p_1.add (2 * 1)) w_21.drew).bind fun v_24 =>
  (ldI .u64 (p_1.add (3 * 1)) w_21.drew).bind fun v_25 =>
  (ldI .u64 (p_1.add (4 * 1)) w_21.drew.drew).bind fun v_26 =>
  (ldI .u64 (p_1.add (5 * 1)) w_21.drew.drew).bind fun v_27 =>
  (ldI .u64 (p_1.add (6 * 1)) w_21.drew.drew).bind fun v_28 =>
  (ldI .u64 (p_1.add (7 * 1)) w_21.drew.drew).bind fun v_29 =>
  bnd (ref01_taken64_l3 K K p_1 p_3 w_5 v_22 v_23 v_24 v_25 v_26 v_27 v_28 v_29 0 w_21.drew.drew) fun y_32 w_33 =>
  (ldI .u64 (p_1.add (0 * 1)) w_33).bind fun v_34 =>
  (ldI .u64 (p_1.add (1 * 1)) w_33).bind fun v_35 =>
  (ldI .u64 (p_1.add (2 * 1)) w_33).bind fun v_36 =>
  (ldI .u64 (p_1.add (3 * 1)) w_33).bind fun v_37 =>
  (ldI .u64 (p_1.add (4 * 1)) w_33).bind fun v_38 =>
  (ldI .u64 (p_1.add (5 * 1)) w_33).bind fun v_39 =>
  (ldI .u64 (p_1.add (6 * 1)) w_33).bind fun v_40 =>
  (ldI .u64 (p_1.add (7 * 1)) w_33).bind fun v_41 =>
  (prog.built 80 [(0, (.int .u64 (IntKind.u64.wrap (v_34 + y_32.1)))), (1, (.int .u64 (IntKind.u64.wrap (v_35 + y_32.2.1)))), (2, (.int .u64 (IntKind.u64.wrap (v_36 + y_32.2.2.1)))), (3, (.int .u64 (IntKind.u64.wrap (v_37 + y_32.2.2.2.1)))), (4, (.int .u64 (IntKind.u64.wrap (v_38 + y_32.2.2.2.2.1)))), (5, (.int .u64 (IntKind.u64.wrap (v_39 + y_32.2.2.2.2.2.1)))), (6, (.int .u64 (IntKind.u64.wrap (v_40 + y_32.2.2.2.2.2.2.1)))), (7, (.int .u64 (IntKind.u64.wrap (v_41 + y_32.2.2.2.2.2.2.2.1))))]).bind fun cs_42 =>
  if (cs_42).size = 8 then ((stA p_3 cs_42 w_33).bind fun w_43 =>
  (ldA 8 p_3 w_43).bind fun res_44 =>
  some ((res_44, ()), w_43)) else none
theorem ref01_taken64_l1_ok (K : Nat) (n : Nat) : StmtNOk prog [(1, .sl), (2, .addr), (4, .addr), (5, .addr), (6, .int .i64), (7, .int .i64)] [] [(7, 8), (30, 49)] ((fun n x w => ref01_taken64_l1 K n x.1 x.2.1 x.2.2.1 x.2.2.2.1 x.2.2.2.2.1 x.2.2.2.2.2.1 w) n) (.block 2 (.loop (cd (bodyOf f65) [1, 1, 0, 1, 0, 0, 1, 0, 0, 1, 0, 0]))) :=
    mk_loopN (O := tabL []) (root := (bodyOf f65)) (π := [1, 1, 0, 1, 0, 0, 1, 0, 0, 1, 0, 0]) (id := 2) (Li := [(1, .sl), (2, .addr), (4, .addr), (5, .addr), (6, .int .i64), (7, .int .i64)]) (Lo := []) (S := (fun n x w => ref01_taken64_l1 K n x.1 x.2.1 x.2.2.1 x.2.2.2.1 x.2.2.2.2.1 x.2.2.2.2.2.1 w)) (body := cd (bodyOf f65) [1, 1, 0, 1, 0, 0, 1, 0, 0, 1, 0, 0]) (ref01_taken64_Eok K) (ref01_taken64_Rok K) rfl (Orc.nil _ _ _) (by kernel_rfl) (fun _ _ => by kernel_rfl) (fun _ _ _ => by kernel_rfl) n
noncomputable def ref01_taken64_l1_se (K : Nat) : SE := stmtN [(1, .sl), (2, .addr), (4, .addr), (5, .addr), (6, .int .i64), (7, .int .i64)] [] [(7, 8), (30, 49)] (fun x w => ref01_taken64_l1 K K x.1 x.2.1 x.2.2.1 x.2.2.2.1 x.2.2.2.2.1 x.2.2.2.2.2.1 w)
theorem ref01_taken64_l1_se_ok (K : Nat) (R : Rg) (h : subRB [(7, 8), (30, 49)] R = true) : (ref01_taken64_l1_se K).Ok prog R (.block 2 (.loop (cd (bodyOf f65) [1, 1, 0, 1, 0, 0, 1, 0, 0, 1, 0, 0]))) := stmtN_ok (Li := [(1, .sl), (2, .addr), (4, .addr), (5, .addr), (6, .int .i64), (7, .int .i64)]) (Lo := []) (S := (fun x w => ref01_taken64_l1 K K x.1 x.2.1 x.2.2.1 x.2.2.2.1 x.2.2.2.2.1 x.2.2.2.2.2.1 w)) (ref01_taken64_l1_ok K K) (subR_of h)
theorem ref01_taken64_l0_ok (K : Nat) (n : Nat) : StmtNOk prog [(1, .sl), (2, .addr), (4, .addr), (5, .addr), (6, .int .i64)] [] [(6, 8), (26, 49)] ((fun n x w => ref01_taken64_l0 K n x.1 x.2.1 x.2.2.1 x.2.2.2.1 x.2.2.2.2.1 w) n) (.block 0 (.loop (cd (bodyOf f65) [1, 1, 0, 1, 0, 0]))) :=
    mk_loopN (O := tabL [([1, 1, 0, 1, 0, 0, 1, 0, 0, 1], ref01_taken64_l1_se K)]) (root := (bodyOf f65)) (π := [1, 1, 0, 1, 0, 0]) (id := 0) (Li := [(1, .sl), (2, .addr), (4, .addr), (5, .addr), (6, .int .i64)]) (Lo := []) (S := (fun n x w => ref01_taken64_l0 K n x.1 x.2.1 x.2.2.1 x.2.2.2.1 x.2.2.2.2.1 w)) (body := cd (bodyOf f65) [1, 1, 0, 1, 0, 0]) (ref01_taken64_Eok K) (ref01_taken64_Rok K) rfl (Orc.cons (by kernel_rfl) (ref01_taken64_l1_se_ok K [(6, 8), (26, 49)] (by kernel_rfl)) (Orc.nil _ _ _)) (by kernel_rfl) (fun _ _ => by kernel_rfl) (fun _ _ _ => by kernel_rfl) n
noncomputable def ref01_taken64_l0_se (K : Nat) : SE := stmtN [(1, .sl), (2, .addr), (4, .addr), (5, .addr), (6, .int .i64)] [] [(6, 8), (26, 49)] (fun x w => ref01_taken64_l0 K K x.1 x.2.1 x.2.2.1 x.2.2.2.1 x.2.2.2.2.1 w)
theorem ref01_taken64_l0_se_ok (K : Nat) (R : Rg) (h : subRB [(6, 8), (26, 49)] R = true) : (ref01_taken64_l0_se K).Ok prog R (.block 0 (.loop (cd (bodyOf f65) [1, 1, 0, 1, 0, 0]))) := stmtN_ok (Li := [(1, .sl), (2, .addr), (4, .addr), (5, .addr), (6, .int .i64)]) (Lo := []) (S := (fun x w => ref01_taken64_l0 K K x.1 x.2.1 x.2.2.1 x.2.2.2.1 x.2.2.2.2.1 w)) (ref01_taken64_l0_ok K K) (subR_of h)
theorem ref01_taken64_l2_ok (K : Nat) (n : Nat) : StmtNOk prog [(2, .addr), (4, .addr), (5, .addr), (8, .int .i64)] [] [(8, 13), (49, 104)] ((fun n x w => ref01_taken64_l2 K n x.1 x.2.1 x.2.2.1 x.2.2.2.1 w) n) (.block 4 (.loop (cd (bodyOf f65) [1, 1, 1, 0, 1, 0, 0]))) :=
    mk_loopN (O := tabL []) (root := (bodyOf f65)) (π := [1, 1, 1, 0, 1, 0, 0]) (id := 4) (Li := [(2, .addr), (4, .addr), (5, .addr), (8, .int .i64)]) (Lo := []) (S := (fun n x w => ref01_taken64_l2 K n x.1 x.2.1 x.2.2.1 x.2.2.2.1 w)) (body := cd (bodyOf f65) [1, 1, 1, 0, 1, 0, 0]) (ref01_taken64_Eok K) (ref01_taken64_Rok K) rfl (Orc.nil _ _ _) (by kernel_rfl) (fun _ _ => by kernel_rfl) (fun _ _ _ => by kernel_rfl) n
noncomputable def ref01_taken64_l2_se (K : Nat) : SE := stmtN [(2, .addr), (4, .addr), (5, .addr), (8, .int .i64)] [] [(8, 13), (49, 104)] (fun x w => ref01_taken64_l2 K K x.1 x.2.1 x.2.2.1 x.2.2.2.1 w)
theorem ref01_taken64_l2_se_ok (K : Nat) (R : Rg) (h : subRB [(8, 13), (49, 104)] R = true) : (ref01_taken64_l2_se K).Ok prog R (.block 4 (.loop (cd (bodyOf f65) [1, 1, 1, 0, 1, 0, 0]))) := stmtN_ok (Li := [(2, .addr), (4, .addr), (5, .addr), (8, .int .i64)]) (Lo := []) (S := (fun x w => ref01_taken64_l2 K K x.1 x.2.1 x.2.2.1 x.2.2.2.1 w)) (ref01_taken64_l2_ok K K) (subR_of h)
theorem ref01_taken64_l3_ok (K : Nat) (n : Nat) : StmtNOk prog [(2, .addr), (4, .addr), (5, .addr), (13, .int .u64), (14, .int .u64), (15, .int .u64), (16, .int .u64), (17, .int .u64), (18, .int .u64), (19, .int .u64), (20, .int .u64), (21, .int .i64)] [(13, .int .u64), (14, .int .u64), (15, .int .u64), (16, .int .u64), (17, .int .u64), (18, .int .u64), (19, .int .u64), (20, .int .u64)] [(13, 26), (120, 203)] ((fun n x w => ref01_taken64_l3 K n x.1 x.2.1 x.2.2.1 x.2.2.2.1 x.2.2.2.2.1 x.2.2.2.2.2.1 x.2.2.2.2.2.2.1 x.2.2.2.2.2.2.2.1 x.2.2.2.2.2.2.2.2.1 x.2.2.2.2.2.2.2.2.2.1 x.2.2.2.2.2.2.2.2.2.2.1 x.2.2.2.2.2.2.2.2.2.2.2.1 w) n) (.block 6 (.loop (cd (bodyOf f65) [1, 1, 1, 1, 1, 1, 0, 1, 0, 0]))) :=
    mk_loopN (O := tabL []) (root := (bodyOf f65)) (π := [1, 1, 1, 1, 1, 1, 0, 1, 0, 0]) (id := 6) (Li := [(2, .addr), (4, .addr), (5, .addr), (13, .int .u64), (14, .int .u64), (15, .int .u64), (16, .int .u64), (17, .int .u64), (18, .int .u64), (19, .int .u64), (20, .int .u64), (21, .int .i64)]) (Lo := [(13, .int .u64), (14, .int .u64), (15, .int .u64), (16, .int .u64), (17, .int .u64), (18, .int .u64), (19, .int .u64), (20, .int .u64)]) (S := (fun n x w => ref01_taken64_l3 K n x.1 x.2.1 x.2.2.1 x.2.2.2.1 x.2.2.2.2.1 x.2.2.2.2.2.1 x.2.2.2.2.2.2.1 x.2.2.2.2.2.2.2.1 x.2.2.2.2.2.2.2.2.1 x.2.2.2.2.2.2.2.2.2.1 x.2.2.2.2.2.2.2.2.2.2.1 x.2.2.2.2.2.2.2.2.2.2.2.1 w)) (body := cd (bodyOf f65) [1, 1, 1, 1, 1, 1, 0, 1, 0, 0]) (ref01_taken64_Eok K) (ref01_taken64_Rok K) rfl (Orc.nil _ _ _) (by kernel_rfl) (fun _ _ => by kernel_rfl) (fun _ _ _ => by kernel_rfl) n
noncomputable def ref01_taken64_l3_se (K : Nat) : SE := stmtN [(2, .addr), (4, .addr), (5, .addr), (13, .int .u64), (14, .int .u64), (15, .int .u64), (16, .int .u64), (17, .int .u64), (18, .int .u64), (19, .int .u64), (20, .int .u64), (21, .int .i64)] [(13, .int .u64), (14, .int .u64), (15, .int .u64), (16, .int .u64), (17, .int .u64), (18, .int .u64), (19, .int .u64), (20, .int .u64)] [(13, 26), (120, 203)] (fun x w => ref01_taken64_l3 K K x.1 x.2.1 x.2.2.1 x.2.2.2.1 x.2.2.2.2.1 x.2.2.2.2.2.1 x.2.2.2.2.2.2.1 x.2.2.2.2.2.2.2.1 x.2.2.2.2.2.2.2.2.1 x.2.2.2.2.2.2.2.2.2.1 x.2.2.2.2.2.2.2.2.2.2.1 x.2.2.2.2.2.2.2.2.2.2.2.1 w)
theorem ref01_taken64_l3_se_ok (K : Nat) (R : Rg) (h : subRB [(13, 26), (120, 203)] R = true) : (ref01_taken64_l3_se K).Ok prog R (.block 6 (.loop (cd (bodyOf f65) [1, 1, 1, 1, 1, 1, 0, 1, 0, 0]))) := stmtN_ok (Li := [(2, .addr), (4, .addr), (5, .addr), (13, .int .u64), (14, .int .u64), (15, .int .u64), (16, .int .u64), (17, .int .u64), (18, .int .u64), (19, .int .u64), (20, .int .u64), (21, .int .i64)]) (Lo := [(13, .int .u64), (14, .int .u64), (15, .int .u64), (16, .int .u64), (17, .int .u64), (18, .int .u64), (19, .int .u64), (20, .int .u64)]) (S := (fun x w => ref01_taken64_l3 K K x.1 x.2.1 x.2.2.1 x.2.2.2.1 x.2.2.2.2.1 x.2.2.2.2.2.1 x.2.2.2.2.2.2.1 x.2.2.2.2.2.2.2.1 x.2.2.2.2.2.2.2.2.1 x.2.2.2.2.2.2.2.2.2.1 x.2.2.2.2.2.2.2.2.2.2.1 x.2.2.2.2.2.2.2.2.2.2.2.1 w)) (ref01_taken64_l3_ok K K) (subR_of h)
theorem ref01_taken64_facts : FunFacts prog 65 f65 (bodyOf f65) [(0, .agg), (1, .sl)] [(0, 236)] := ⟨func65, by kernel_rfl, by kernel_rfl, by kernel_rfl, by kernel_rfl, by kernel_rfl⟩
theorem ref01_taken64_calls (K : Nat) (x : TT [(0, .agg), (1, .sl)]) (w : World) (y : TR [.agg]) (w2 : World) (h : ref01_taken64 K x.1 x.2.1 w = some (y, w2)) : Calls prog 65 (encA [(0, .agg), (1, .sl)] x).toArray w (fun e w3 => e = .returned (resV (encR [.agg] y)) ∧ w3 = w2) :=
    mk_fun (O := tabL [([1, 1, 0, 1], ref01_taken64_l0_se K), ([1, 1, 0, 1, 0, 0, 1, 0, 0, 1], ref01_taken64_l1_se K), ([1, 1, 1, 0, 1], ref01_taken64_l2_se K), ([1, 1, 1, 1, 1, 1, 0, 1], ref01_taken64_l3_se K)]) (Lp := [(0, .agg), (1, .sl)]) (Rt := [.agg]) (S := (fun x w => ref01_taken64 K x.1 x.2.1 w)) (ref01_taken64_Eok K) (ref01_taken64_Rok K) rfl ref01_taken64_facts (Orc.cons (by kernel_rfl) (ref01_taken64_l0_se_ok K [(0, 236)] (by kernel_rfl)) (Orc.cons (by kernel_rfl) (ref01_taken64_l1_se_ok K [(0, 236)] (by kernel_rfl)) (Orc.cons (by kernel_rfl) (ref01_taken64_l2_se_ok K [(0, 236)] (by kernel_rfl)) (Orc.cons (by kernel_rfl) (ref01_taken64_l3_se_ok K [(0, 236)] (by kernel_rfl)) (Orc.nil _ _ _))))) (fun _ _ => by kernel_rfl) x w y w2 h
noncomputable def ref01_taken64_ce (K : Nat) : CE := funE [(0, .agg), (1, .sl)] [.agg] (fun x w => ref01_taken64 K x.1 x.2.1 w)
theorem ref01_taken64_ok (K : Nat) : (ref01_taken64_ce K).Ok prog 65 := funE_ok (Rt := [.agg]) (S := (fun x w => ref01_taken64 K x.1 x.2.1 w)) ref01_taken64_facts fun x w y w2 h => ref01_taken64_calls K x w y w2 h

noncomputable def ref01_Sum_E (K : Nat) : List (Nat × CE) := [(62, ref01_first_ce K), (63, ref01_laid_ce K), (64, ref01_narrow_ce K), (65, ref01_taken64_ce K)]
theorem ref01_Sum_Eok (K : Nat) : Env.Ok prog (tab (ref01_Sum_E K)) := (Env.cons (ref01_first_ok K) (Env.cons (ref01_laid_ok K) (Env.cons (ref01_narrow_ok K) (Env.cons (ref01_taken64_ok K) (Env.nil _)))))
noncomputable def ref01_Sum_R (K : Nat) : List (Nat × RE) := [(21, ref01_Block_re), (19, ref01_Size_re)]
theorem ref01_Sum_Rok (K : Nat) : REnv.Ok prog (tab (ref01_Sum_R K)) := (REnv.cons (ref01_Block_ok) (REnv.cons (ref01_Size_ok) (REnv.nil _)))
noncomputable def ref01_Sum_l1_b (K : Nat) (rec : Addr → Sl → Int → World → Option ((Unit) × World)) (h6 : Addr) (p7 : Sl) (i9 : Int) (w : World) : Option ((Unit) × World) :=
  if (decide (i9 < ((p7.len : Nat) : Int))) = true then (if (0 : Int) ≤ (IntKind.i64.wrap (i9 + 128)) ∧ (IntKind.i64.wrap (i9 + 128)) ≤ ((p7.cap : Nat) : Int) then (if (0 : Int) ≤ i9 ∧ i9 ≤ (((Int.toNat ((IntKind.i64.wrap (i9 + 128)))) : Nat) : Int) then ((ldA 8 h6 w.drew).bind fun v_13 =>
  bnd (ref01_taken64 K v_13 ⟨(sla p7.a (Int.toNat (i9)) p7.cap 1), ((Int.toNat ((IntKind.i64.wrap (i9 + 128)))) - (Int.toNat (i9))), (p7.cap - (Int.toNat (i9)))⟩ w.drew) fun r_14 w_15 =>
  if (r_14.1).size = 8 then ((stA h6 r_14.1 w_15).bind fun w_16 =>
  rec h6 p7 (IntKind.i64.wrap (i9 + 128)) w_16) else none) else none) else none) else (some ((), w))
noncomputable def ref01_Sum_l1 (K : Nat) (n : Nat) : Addr → Sl → Int → World → Option ((Unit) × World) := iter (fun _ _ _ _ => none) (ref01_Sum_l1_b K) n
noncomputable def ref01_Sum_s0 (K : Nat) (h6 : Addr) (p7 : Sl) (a25 : Bool) (w : World) : Option ((Unit) × World) :=
  if a25 = true then ((ldA 8 h6 w).bind fun v_9 =>
  bnd (ref01_narrow K v_9 p7 w) fun r_10 w_11 =>
  if (r_10.1).size = 8 then ((stA h6 r_10.1 w_11).bind fun w_12 =>
  some ((), w_12)) else none) else (bnd (ref01_Sum_l1 K K h6 p7 0 w) fun y_17 w_18 =>
  some ((), w_18))
noncomputable def ref01_Sum_s4 (K : Nat) (hash0 : Int) (out10 : Sl) (j12 : Int) (w : World) : Option ((Bool × Unit) × World) :=
  if (decide (j12 ≥ 0)) = true then ((ref01_Size hash0).bind fun r_22 =>
  some (((decide (((out10.len : Nat) : Int) < r_22.1)), ()), w)) else (some ((false, ()), w))
noncomputable def ref01_Sum_l3_b (K : Nat) (rec : Int → Addr → Int → Sl → Int → Int → World → Option ((Sl × Unit) × World)) (hash0 : Int) (h6 : Addr) (n8 : Int) (out10 : Sl) (i11 : Int) (j12 : Int) (w : World) : Option ((Sl × Unit) × World) :=
  bnd (ref01_Sum_s4 K hash0 out10 j12 w) fun y_23 w_24 =>
  if y_23.1 = true then (if (0 : Int) ≤ i11 ∧ i11 < ((8 : Nat) : Int) then ((ldI .u64 (h6.add ((Int.toNat i11) * 1)) w_24).bind fun v_25 =>
  if (0 : Int) ≤ (IntKind.u64.wrap (IntKind.i64.wrap (8 * j12))) then (bnd (bldS prog 25 1 #[(0, (.int .u8 (IntKind.u8.wrap (Int.fdiv v_25 (2 ^ (min (Int.toNat (IntKind.u64.wrap (IntKind.i64.wrap (8 * j12)))) IntKind.u64.bits))))))] w_24) fun s_26 w_27 =>
  bnd (apd prog 25 25 (.slice out10.a out10.len out10.cap) (.slice s_26.a s_26.len s_26.cap) w_27) fun s_28 w_29 =>
  rec hash0 h6 n8 s_28 i11 (IntKind.i64.wrap (j12 - 1)) w_29) else none) else none) else (some ((out10, ()), w_24))
noncomputable def ref01_Sum_l3 (K : Nat) (n : Nat) : Int → Addr → Int → Sl → Int → Int → World → Option ((Sl × Unit) × World) := iter (fun _ _ _ _ _ _ _ => none) (ref01_Sum_l3_b K) n
noncomputable def ref01_Sum_l2_b (K : Nat) (rec : Int → Addr → Int → Sl → Int → World → Option ((Sl × Unit) × World)) (hash0 : Int) (h6 : Addr) (n8 : Int) (out10 : Sl) (i11 : Int) (w : World) : Option ((Sl × Unit) × World) :=
  (ref01_Size hash0).bind fun r_21 =>
  if (decide (((out10.len : Nat) : Int) < r_21.1)) = true then (bnd (ref01_Sum_l3 K K hash0 h6 n8 out10 i11 (IntKind.i64.wrap (n8 - 1)) w) fun y_30 w_31 =>
  rec hash0 h6 n8 y_30.1 (IntKind.i64.wrap (i11 + 1)) w_31) else (some ((out10, ()), w))
noncomputable def ref01_Sum_l2 (K : Nat) (n : Nat) : Int → Addr → Int → Sl → Int → World → Option ((Sl × Unit) × World) := iter (fun _ _ _ _ _ _ => none) (ref01_Sum_l2_b K) n
/-- coffer/cofferref01.Sum -/
noncomputable def ref01_Sum (K : Nat) (hash0 : Int) (b1 : Sl) (w : World) : Option ((Sl × Unit) × World) :=
  (ref01_Block hash0).bind fun r_1 =>
  if (r_1.1 == 0) = true then (some ((⟨none, 0, 0⟩, ()), w)) else (bnd (ref01_first K hash0 w) fun r_2 w_3 =>
  bnd (newB z80 80 w_3) fun h_4 w_5 =>
  if (r_2.1).size = 8 then ((stA h_4 r_2.1 w_5).bind fun w_6 =>
  bnd (ref01_laid K b1 r_1.1 w_6) fun r_7 w_8 =>
  bnd (ref01_Sum_s0 K h_4 r_7.1 ((IntKind.i64.wrap (Int.tdiv r_1.1 16)) == 4) w_8) fun y_19 w_20 =>
  bnd (ref01_Sum_l2 K K hash0 h_4 (IntKind.i64.wrap (Int.tdiv r_1.1 16)) ⟨none, 0, 0⟩ 0 w_20) fun y_32 w_33 =>
  some ((y_32.1, ()), w_33)) else none)
theorem ref01_Sum_l1_ok (K : Nat) (n : Nat) : StmtNOk prog [(6, .addr), (7, .sl), (9, .int .i64)] [] [(9, 10), (29, 42)] ((fun n x w => ref01_Sum_l1 K n x.1 x.2.1 x.2.2.1 w) n) (.block 0 (.loop (cd (bodyOf f25) [1, 1, 1, 1, 1, 1, 0, 1, 1, 1, 0, 0]))) :=
    mk_loopN (O := tabL []) (root := (bodyOf f25)) (π := [1, 1, 1, 1, 1, 1, 0, 1, 1, 1, 0, 0]) (id := 0) (Li := [(6, .addr), (7, .sl), (9, .int .i64)]) (Lo := []) (S := (fun n x w => ref01_Sum_l1 K n x.1 x.2.1 x.2.2.1 w)) (body := cd (bodyOf f25) [1, 1, 1, 1, 1, 1, 0, 1, 1, 1, 0, 0]) (ref01_Sum_Eok K) (ref01_Sum_Rok K) rfl (Orc.nil _ _ _) (by kernel_rfl) (fun _ _ => by kernel_rfl) (fun _ _ _ => by kernel_rfl) n
noncomputable def ref01_Sum_l1_se (K : Nat) : SE := stmtN [(6, .addr), (7, .sl), (9, .int .i64)] [] [(9, 10), (29, 42)] (fun x w => ref01_Sum_l1 K K x.1 x.2.1 x.2.2.1 w)
theorem ref01_Sum_l1_se_ok (K : Nat) (R : Rg) (h : subRB [(9, 10), (29, 42)] R = true) : (ref01_Sum_l1_se K).Ok prog R (.block 0 (.loop (cd (bodyOf f25) [1, 1, 1, 1, 1, 1, 0, 1, 1, 1, 0, 0]))) := stmtN_ok (Li := [(6, .addr), (7, .sl), (9, .int .i64)]) (Lo := []) (S := (fun x w => ref01_Sum_l1 K K x.1 x.2.1 x.2.2.1 w)) (ref01_Sum_l1_ok K K) (subR_of h)
theorem ref01_Sum_s0_ok (K : Nat) : StmtNOk prog [(6, .addr), (7, .sl), (25, .bool)] [] [(9, 10), (26, 42)] (fun x w => ref01_Sum_s0 K x.1 x.2.1 x.2.2.1 w) (cd (bodyOf f25) [1, 1, 1, 1, 1, 1, 0, 1]) :=
    mk_stmtN (O := tabL [([1, 1, 1, 1, 1, 1, 0, 1, 1, 1], ref01_Sum_l1_se K)]) (root := (bodyOf f25)) (π := [1, 1, 1, 1, 1, 1, 0, 1]) (Li := [(6, .addr), (7, .sl), (25, .bool)]) (Lo := []) (S := (fun x w => ref01_Sum_s0 K x.1 x.2.1 x.2.2.1 w)) (ref01_Sum_Eok K) (ref01_Sum_Rok K) rfl (Orc.cons (by kernel_rfl) (ref01_Sum_l1_se_ok K [(9, 10), (26, 42)] (by kernel_rfl)) (Orc.nil _ _ _)) (by kernel_rfl) (fun _ _ => by kernel_rfl)
noncomputable def ref01_Sum_s0_se (K : Nat) : SE := stmtN [(6, .addr), (7, .sl), (25, .bool)] [] [(9, 10), (26, 42)] (fun x w => ref01_Sum_s0 K x.1 x.2.1 x.2.2.1 w)
theorem ref01_Sum_s0_se_ok (K : Nat) (R : Rg) (h : subRB [(9, 10), (26, 42)] R = true) : (ref01_Sum_s0_se K).Ok prog R (cd (bodyOf f25) [1, 1, 1, 1, 1, 1, 0, 1]) := stmtN_ok (Li := [(6, .addr), (7, .sl), (25, .bool)]) (Lo := []) (S := (fun x w => ref01_Sum_s0 K x.1 x.2.1 x.2.2.1 w)) (ref01_Sum_s0_ok K) (subR_of h)
theorem ref01_Sum_s4_ok (K : Nat) : StmtNOk prog [(0, .int .i64), (10, .sl), (12, .int .i64)] [(59, .bool)] [(51, 60)] (fun x w => ref01_Sum_s4 K x.1 x.2.1 x.2.2.1 w) (cd (bodyOf f25) [1, 1, 1, 1, 1, 1, 1, 1, 0, 1, 0, 0, 1, 0, 0, 1, 0, 0, 0, 0]) :=
    mk_stmtN (O := tabL []) (root := (bodyOf f25)) (π := [1, 1, 1, 1, 1, 1, 1, 1, 0, 1, 0, 0, 1, 0, 0, 1, 0, 0, 0, 0]) (Li := [(0, .int .i64), (10, .sl), (12, .int .i64)]) (Lo := [(59, .bool)]) (S := (fun x w => ref01_Sum_s4 K x.1 x.2.1 x.2.2.1 w)) (ref01_Sum_Eok K) (ref01_Sum_Rok K) rfl (Orc.nil _ _ _) (by kernel_rfl) (fun _ _ => by kernel_rfl)
noncomputable def ref01_Sum_s4_se (K : Nat) : SE := stmtN [(0, .int .i64), (10, .sl), (12, .int .i64)] [(59, .bool)] [(51, 60)] (fun x w => ref01_Sum_s4 K x.1 x.2.1 x.2.2.1 w)
theorem ref01_Sum_s4_se_ok (K : Nat) (R : Rg) (h : subRB [(51, 60)] R = true) : (ref01_Sum_s4_se K).Ok prog R (cd (bodyOf f25) [1, 1, 1, 1, 1, 1, 1, 1, 0, 1, 0, 0, 1, 0, 0, 1, 0, 0, 0, 0]) := stmtN_ok (Li := [(0, .int .i64), (10, .sl), (12, .int .i64)]) (Lo := [(59, .bool)]) (S := (fun x w => ref01_Sum_s4 K x.1 x.2.1 x.2.2.1 w)) (ref01_Sum_s4_ok K) (subR_of h)
theorem ref01_Sum_l3_ok (K : Nat) (n : Nat) : StmtNOk prog [(0, .int .i64), (6, .addr), (8, .int .i64), (10, .sl), (11, .int .i64), (12, .int .i64)] [(10, .sl)] [(10, 11), (12, 13), (51, 73)] ((fun n x w => ref01_Sum_l3 K n x.1 x.2.1 x.2.2.1 x.2.2.2.1 x.2.2.2.2.1 x.2.2.2.2.2.1 w) n) (.block 4 (.loop (cd (bodyOf f25) [1, 1, 1, 1, 1, 1, 1, 1, 0, 1, 0, 0, 1, 0, 0, 1, 0, 0]))) :=
    mk_loopN (O := tabL [([1, 1, 1, 1, 1, 1, 1, 1, 0, 1, 0, 0, 1, 0, 0, 1, 0, 0, 0, 0], ref01_Sum_s4_se K)]) (root := (bodyOf f25)) (π := [1, 1, 1, 1, 1, 1, 1, 1, 0, 1, 0, 0, 1, 0, 0, 1, 0, 0]) (id := 4) (Li := [(0, .int .i64), (6, .addr), (8, .int .i64), (10, .sl), (11, .int .i64), (12, .int .i64)]) (Lo := [(10, .sl)]) (S := (fun n x w => ref01_Sum_l3 K n x.1 x.2.1 x.2.2.1 x.2.2.2.1 x.2.2.2.2.1 x.2.2.2.2.2.1 w)) (body := cd (bodyOf f25) [1, 1, 1, 1, 1, 1, 1, 1, 0, 1, 0, 0, 1, 0, 0, 1, 0, 0]) (ref01_Sum_Eok K) (ref01_Sum_Rok K) rfl (Orc.cons (by kernel_rfl) (ref01_Sum_s4_se_ok K [(10, 11), (12, 13), (51, 73)] (by kernel_rfl)) (Orc.nil _ _ _)) (by kernel_rfl) (fun _ _ => by kernel_rfl) (fun _ _ _ => by kernel_rfl) n
noncomputable def ref01_Sum_l3_se (K : Nat) : SE := stmtN [(0, .int .i64), (6, .addr), (8, .int .i64), (10, .sl), (11, .int .i64), (12, .int .i64)] [(10, .sl)] [(10, 11), (12, 13), (51, 73)] (fun x w => ref01_Sum_l3 K K x.1 x.2.1 x.2.2.1 x.2.2.2.1 x.2.2.2.2.1 x.2.2.2.2.2.1 w)
theorem ref01_Sum_l3_se_ok (K : Nat) (R : Rg) (h : subRB [(10, 11), (12, 13), (51, 73)] R = true) : (ref01_Sum_l3_se K).Ok prog R (.block 4 (.loop (cd (bodyOf f25) [1, 1, 1, 1, 1, 1, 1, 1, 0, 1, 0, 0, 1, 0, 0, 1, 0, 0]))) := stmtN_ok (Li := [(0, .int .i64), (6, .addr), (8, .int .i64), (10, .sl), (11, .int .i64), (12, .int .i64)]) (Lo := [(10, .sl)]) (S := (fun x w => ref01_Sum_l3 K K x.1 x.2.1 x.2.2.1 x.2.2.2.1 x.2.2.2.2.1 x.2.2.2.2.2.1 w)) (ref01_Sum_l3_ok K K) (subR_of h)
theorem ref01_Sum_l2_ok (K : Nat) (n : Nat) : StmtNOk prog [(0, .int .i64), (6, .addr), (8, .int .i64), (10, .sl), (11, .int .i64)] [(10, .sl)] [(10, 13), (42, 73)] ((fun n x w => ref01_Sum_l2 K n x.1 x.2.1 x.2.2.1 x.2.2.2.1 x.2.2.2.2.1 w) n) (.block 2 (.loop (cd (bodyOf f25) [1, 1, 1, 1, 1, 1, 1, 1, 0, 1, 0, 0]))) :=
    mk_loopN (O := tabL [([1, 1, 1, 1, 1, 1, 1, 1, 0, 1, 0, 0, 1, 0, 0, 1], ref01_Sum_l3_se K), ([1, 1, 1, 1, 1, 1, 1, 1, 0, 1, 0, 0, 1, 0, 0, 1, 0, 0, 0, 0], ref01_Sum_s4_se K)]) (root := (bodyOf f25)) (π := [1, 1, 1, 1, 1, 1, 1, 1, 0, 1, 0, 0]) (id := 2) (Li := [(0, .int .i64), (6, .addr), (8, .int .i64), (10, .sl), (11, .int .i64)]) (Lo := [(10, .sl)]) (S := (fun n x w => ref01_Sum_l2 K n x.1 x.2.1 x.2.2.1 x.2.2.2.1 x.2.2.2.2.1 w)) (body := cd (bodyOf f25) [1, 1, 1, 1, 1, 1, 1, 1, 0, 1, 0, 0]) (ref01_Sum_Eok K) (ref01_Sum_Rok K) rfl (Orc.cons (by kernel_rfl) (ref01_Sum_l3_se_ok K [(10, 13), (42, 73)] (by kernel_rfl)) (Orc.cons (by kernel_rfl) (ref01_Sum_s4_se_ok K [(10, 13), (42, 73)] (by kernel_rfl)) (Orc.nil _ _ _))) (by kernel_rfl) (fun _ _ => by kernel_rfl) (fun _ _ _ => by kernel_rfl) n
noncomputable def ref01_Sum_l2_se (K : Nat) : SE := stmtN [(0, .int .i64), (6, .addr), (8, .int .i64), (10, .sl), (11, .int .i64)] [(10, .sl)] [(10, 13), (42, 73)] (fun x w => ref01_Sum_l2 K K x.1 x.2.1 x.2.2.1 x.2.2.2.1 x.2.2.2.2.1 w)
theorem ref01_Sum_l2_se_ok (K : Nat) (R : Rg) (h : subRB [(10, 13), (42, 73)] R = true) : (ref01_Sum_l2_se K).Ok prog R (.block 2 (.loop (cd (bodyOf f25) [1, 1, 1, 1, 1, 1, 1, 1, 0, 1, 0, 0]))) := stmtN_ok (Li := [(0, .int .i64), (6, .addr), (8, .int .i64), (10, .sl), (11, .int .i64)]) (Lo := [(10, .sl)]) (S := (fun x w => ref01_Sum_l2 K K x.1 x.2.1 x.2.2.1 x.2.2.2.1 x.2.2.2.2.1 w)) (ref01_Sum_l2_ok K K) (subR_of h)
theorem ref01_Sum_facts : FunFacts prog 25 f25 (bodyOf f25) [(0, .int .i64), (1, .sl)] [(0, 74)] := ⟨func25, by kernel_rfl, by kernel_rfl, by kernel_rfl, by kernel_rfl, by kernel_rfl⟩
theorem ref01_Sum_calls (K : Nat) (x : TT [(0, .int .i64), (1, .sl)]) (w : World) (y : TR [.sl]) (w2 : World) (h : ref01_Sum K x.1 x.2.1 w = some (y, w2)) : Calls prog 25 (encA [(0, .int .i64), (1, .sl)] x).toArray w (fun e w3 => e = .returned (resV (encR [.sl] y)) ∧ w3 = w2) :=
    mk_fun (O := tabL [([1, 1, 1, 1, 1, 1, 0, 1], ref01_Sum_s0_se K), ([1, 1, 1, 1, 1, 1, 0, 1, 1, 1], ref01_Sum_l1_se K), ([1, 1, 1, 1, 1, 1, 1, 1, 0, 1], ref01_Sum_l2_se K), ([1, 1, 1, 1, 1, 1, 1, 1, 0, 1, 0, 0, 1, 0, 0, 1], ref01_Sum_l3_se K), ([1, 1, 1, 1, 1, 1, 1, 1, 0, 1, 0, 0, 1, 0, 0, 1, 0, 0, 0, 0], ref01_Sum_s4_se K)]) (Lp := [(0, .int .i64), (1, .sl)]) (Rt := [.sl]) (S := (fun x w => ref01_Sum K x.1 x.2.1 w)) (ref01_Sum_Eok K) (ref01_Sum_Rok K) rfl ref01_Sum_facts (Orc.cons (by kernel_rfl) (ref01_Sum_s0_se_ok K [(0, 74)] (by kernel_rfl)) (Orc.cons (by kernel_rfl) (ref01_Sum_l1_se_ok K [(0, 74)] (by kernel_rfl)) (Orc.cons (by kernel_rfl) (ref01_Sum_l2_se_ok K [(0, 74)] (by kernel_rfl)) (Orc.cons (by kernel_rfl) (ref01_Sum_l3_se_ok K [(0, 74)] (by kernel_rfl)) (Orc.cons (by kernel_rfl) (ref01_Sum_s4_se_ok K [(0, 74)] (by kernel_rfl)) (Orc.nil _ _ _)))))) (fun _ _ => by kernel_rfl) x w y w2 h
noncomputable def ref01_Sum_ce (K : Nat) : CE := funE [(0, .int .i64), (1, .sl)] [.sl] (fun x w => ref01_Sum K x.1 x.2.1 w)
theorem ref01_Sum_ok (K : Nat) : (ref01_Sum_ce K).Ok prog 25 := funE_ok (Rt := [.sl]) (S := (fun x w => ref01_Sum K x.1 x.2.1 w)) ref01_Sum_facts fun x w y w2 h => ref01_Sum_calls K x w y w2 h

noncomputable def law01_num_R : List (Nat × RE) := []
theorem law01_num_Rok : REnv.Ok prog (tab (law01_num_R)) := (REnv.nil _)
/-- coffer/cofferlaw01.num -/
noncomputable def law01_num (e0 : Int) : Option (Int × Unit) :=
  some (e0, ())
theorem law01_num_facts : FunFacts prog 26 f26 (bodyOf f26) [(0, .int .i64)] [(0, 4)] := ⟨func26, by kernel_rfl, by kernel_rfl, by kernel_rfl, by kernel_rfl, by kernel_rfl⟩
theorem law01_num_calls (x : TT [(0, .int .i64)]) (w : World) (y : TR [.int .i64]) (h : law01_num x.1 = some y) : Calls prog 26 (encA [(0, .int .i64)] x).toArray w (fun e w3 => e = .returned (resV (encR [.int .i64] y)) ∧ w3 = w) :=
    mk_funQ (O := tabL []) (Lp := [(0, .int .i64)]) (Rt := [.int .i64]) (S := (fun x w => law01_num x.1)) (law01_num_Rok) law01_num_facts (OrcQ.nil _ _ _) (fun _ _ => by kernel_rfl) x w y h
noncomputable def law01_num_re : RE := funR [(0, .int .i64)] [.int .i64] (fun x w => law01_num x.1)
theorem law01_num_ok : (law01_num_re).Ok prog 26 := funR_ok (Rt := [.int .i64]) (S := (fun x w => law01_num x.1)) law01_num_facts fun x w y h => law01_num_calls x w y h

noncomputable def book_SameBytes_E (K : Nat) : List (Nat × CE) := []
theorem book_SameBytes_Eok (K : Nat) : Env.Ok prog (tab (book_SameBytes_E K)) := (Env.nil _)
noncomputable def book_SameBytes_R (K : Nat) : List (Nat × RE) := []
theorem book_SameBytes_Rok (K : Nat) : REnv.Ok prog (tab (book_SameBytes_R K)) := (REnv.nil _)
noncomputable def book_SameBytes_l0_b (K : Nat) (rec : Sl → Sl → Int → World → Option ((Out (Unit) (Bool × Unit)) × World)) (a0 : Sl) (b1 : Sl) (i5 : Int) (w : World) : Option ((Out (Unit) (Bool × Unit)) × World) :=
  if (decide (i5 < ((a0.len : Nat) : Int))) = true then ((a0.a).bind fun p_1 =>
  if (0 : Int) ≤ i5 ∧ i5 < ((a0.len : Nat) : Int) then ((b1.a).bind fun p_2 =>
  if (0 : Int) ≤ i5 ∧ i5 < ((b1.len : Nat) : Int) then ((ldI .u8 (p_1.add ((Int.toNat i5) * 1)) w.drew).bind fun v_3 =>
  (ldI .u8 (p_2.add ((Int.toNat i5) * 1)) w.drew).bind fun v_4 =>
  if (v_3 != v_4) = true then (some (.ret (false, ()), w.drew)) else (rec a0 b1 (IntKind.i64.wrap (i5 + 1)) w.drew)) else none) else none) else (some (.norm (), w))
noncomputable def book_SameBytes_l0 (K : Nat) (n : Nat) : Sl → Sl → Int → World → Option ((Out (Unit) (Bool × Unit)) × World) := iter (fun _ _ _ _ => none) (book_SameBytes_l0_b K) n
/-- coffer/cofferbook.SameBytes -/
noncomputable def book_SameBytes (K : Nat) (a0 : Sl) (b1 : Sl) (w : World) : Option ((Bool × Unit) × World) :=
  if (((a0.len : Nat) : Int) != ((b1.len : Nat) : Int)) = true then (some ((false, ()), w)) else (bnd (book_SameBytes_l0 K K a0 b1 0 w) fun y_5 w_6 =>
  (match y_5 with
  | .norm z_7n => (some ((true, ()), w_6))
  | .ret z_7r => (some ((z_7r.1, ()), w_6))))
theorem book_SameBytes_l0_ok (K : Nat) (n : Nat) : StmtOk prog [(0, .sl), (1, .sl), (5, .int .i64)] [] [(4, .bool)] [(4, 6), (11, 26)] ((fun n x w => book_SameBytes_l0 K n x.1 x.2.1 x.2.2.1 w) n) (.block 0 (.loop (cd (bodyOf f27) [1, 1, 0, 1, 0, 0]))) :=
    mk_loop (O := tabL []) (root := (bodyOf f27)) (π := [1, 1, 0, 1, 0, 0]) (id := 0) (Li := [(0, .sl), (1, .sl), (5, .int .i64)]) (Lo := []) (Lr := [(4, .bool)]) (S := (fun n x w => book_SameBytes_l0 K n x.1 x.2.1 x.2.2.1 w)) (body := cd (bodyOf f27) [1, 1, 0, 1, 0, 0]) (book_SameBytes_Eok K) (book_SameBytes_Rok K) rfl (Orc.nil _ _ _) (by kernel_rfl) (fun _ _ => by kernel_rfl) (fun _ _ _ => by kernel_rfl) n
noncomputable def book_SameBytes_l0_se (K : Nat) : SE := stmt [(0, .sl), (1, .sl), (5, .int .i64)] [] [(4, .bool)] [(4, 6), (11, 26)] (fun x w => book_SameBytes_l0 K K x.1 x.2.1 x.2.2.1 w)
theorem book_SameBytes_l0_se_ok (K : Nat) (R : Rg) (h : subRB [(4, 6), (11, 26)] R = true) : (book_SameBytes_l0_se K).Ok prog R (.block 0 (.loop (cd (bodyOf f27) [1, 1, 0, 1, 0, 0]))) := stmt_ok (Li := [(0, .sl), (1, .sl), (5, .int .i64)]) (Lo := []) (Lr := [(4, .bool)]) (S := (fun x w => book_SameBytes_l0 K K x.1 x.2.1 x.2.2.1 w)) (book_SameBytes_l0_ok K K) (subR_of h)
theorem book_SameBytes_facts : FunFacts prog 27 f27 (bodyOf f27) [(0, .sl), (1, .sl)] [(0, 26)] := ⟨func27, by kernel_rfl, by kernel_rfl, by kernel_rfl, by kernel_rfl, by kernel_rfl⟩
theorem book_SameBytes_calls (K : Nat) (x : TT [(0, .sl), (1, .sl)]) (w : World) (y : TR [.bool]) (w2 : World) (h : book_SameBytes K x.1 x.2.1 w = some (y, w2)) : Calls prog 27 (encA [(0, .sl), (1, .sl)] x).toArray w (fun e w3 => e = .returned (resV (encR [.bool] y)) ∧ w3 = w2) :=
    mk_fun (O := tabL [([1, 1, 0, 1], book_SameBytes_l0_se K)]) (Lp := [(0, .sl), (1, .sl)]) (Rt := [.bool]) (S := (fun x w => book_SameBytes K x.1 x.2.1 w)) (book_SameBytes_Eok K) (book_SameBytes_Rok K) rfl book_SameBytes_facts (Orc.cons (by kernel_rfl) (book_SameBytes_l0_se_ok K [(0, 26)] (by kernel_rfl)) (Orc.nil _ _ _)) (fun _ _ => by kernel_rfl) x w y w2 h
noncomputable def book_SameBytes_ce (K : Nat) : CE := funE [(0, .sl), (1, .sl)] [.bool] (fun x w => book_SameBytes K x.1 x.2.1 w)
theorem book_SameBytes_ok (K : Nat) : (book_SameBytes_ce K).Ok prog 27 := funE_ok (Rt := [.bool]) (S := (fun x w => book_SameBytes K x.1 x.2.1 w)) book_SameBytes_facts fun x w y w2 h => book_SameBytes_calls K x w y w2 h

noncomputable def book_WholeBytes_E (K : Nat) : List (Nat × CE) := [(27, book_SameBytes_ce K)]
theorem book_WholeBytes_Eok (K : Nat) : Env.Ok prog (tab (book_WholeBytes_E K)) := (Env.cons (book_SameBytes_ok K) (Env.nil _))
noncomputable def book_WholeBytes_R (K : Nat) : List (Nat × RE) := []
theorem book_WholeBytes_Rok (K : Nat) : REnv.Ok prog (tab (book_WholeBytes_R K)) := (REnv.nil _)
noncomputable def book_WholeBytes_l0_b (K : Nat) (rec : Int → Sl → Int → World → Option ((Out (Unit) (Bool × Unit)) × World)) (n5 : Int) (all6 : Sl) (i7 : Int) (w : World) : Option ((Out (Unit) (Bool × Unit)) × World) :=
  if (decide (i7 < 70)) = true then ((all6.a).bind fun p_3 =>
  if (0 : Int) ≤ (IntKind.i64.wrap (n5 + i7)) ∧ (IntKind.i64.wrap (n5 + i7)) < ((all6.len : Nat) : Int) then ((ldI .u8 (p_3.add ((Int.toNat (IntKind.i64.wrap (n5 + i7))) * 1)) w).bind fun v_4 =>
  if (v_4 != (IntKind.u8.wrap (IntKind.i64.wrap (181 + i7)))) = true then (some (.ret (false, ()), w)) else (rec n5 all6 (IntKind.i64.wrap (i7 + 1)) w)) else none) else (some (.norm (), w))
noncomputable def book_WholeBytes_l0 (K : Nat) (n : Nat) : Int → Sl → Int → World → Option ((Out (Unit) (Bool × Unit)) × World) := iter (fun _ _ _ _ => none) (book_WholeBytes_l0_b K) n
/-- coffer/cofferbook.WholeBytes -/
noncomputable def book_WholeBytes (K : Nat) (c0 : Sl) (l1 : Sl) (w : World) : Option ((Bool × Unit) × World) :=
  bnd (book_SameBytes K c0 l1 w) fun r_1 w_2 =>
  if (!r_1.1) = true then (some ((false, ()), w_2)) else (if (0 : Int) ≤ (IntKind.i64.wrap (((c0.len : Nat) : Int) + 70)) ∧ (IntKind.i64.wrap (((c0.len : Nat) : Int) + 70)) ≤ ((c0.cap : Nat) : Int) then (bnd (book_WholeBytes_l0 K K ((c0.len : Nat) : Int) ⟨(sla c0.a 0 c0.cap 1), ((Int.toNat ((IntKind.i64.wrap (((c0.len : Nat) : Int) + 70)))) - 0), (c0.cap - 0)⟩ 0 w_2) fun y_5 w_6 =>
  (match y_5 with
  | .norm z_7n => (some ((true, ()), w_6))
  | .ret z_7r => (some ((z_7r.1, ()), w_6)))) else none)
theorem book_WholeBytes_l0_ok (K : Nat) (n : Nat) : StmtOk prog [(5, .int .i64), (6, .sl), (7, .int .i64)] [] [(4, .bool)] [(4, 5), (7, 8), (18, 32)] ((fun n x w => book_WholeBytes_l0 K n x.1 x.2.1 x.2.2.1 w) n) (.block 0 (.loop (cd (bodyOf f33) [1, 1, 1, 1, 0, 1, 0, 0]))) :=
    mk_loop (O := tabL []) (root := (bodyOf f33)) (π := [1, 1, 1, 1, 0, 1, 0, 0]) (id := 0) (Li := [(5, .int .i64), (6, .sl), (7, .int .i64)]) (Lo := []) (Lr := [(4, .bool)]) (S := (fun n x w => book_WholeBytes_l0 K n x.1 x.2.1 x.2.2.1 w)) (body := cd (bodyOf f33) [1, 1, 1, 1, 0, 1, 0, 0]) (book_WholeBytes_Eok K) (book_WholeBytes_Rok K) rfl (Orc.nil _ _ _) (by kernel_rfl) (fun _ _ => by kernel_rfl) (fun _ _ _ => by kernel_rfl) n
noncomputable def book_WholeBytes_l0_se (K : Nat) : SE := stmt [(5, .int .i64), (6, .sl), (7, .int .i64)] [] [(4, .bool)] [(4, 5), (7, 8), (18, 32)] (fun x w => book_WholeBytes_l0 K K x.1 x.2.1 x.2.2.1 w)
theorem book_WholeBytes_l0_se_ok (K : Nat) (R : Rg) (h : subRB [(4, 5), (7, 8), (18, 32)] R = true) : (book_WholeBytes_l0_se K).Ok prog R (.block 0 (.loop (cd (bodyOf f33) [1, 1, 1, 1, 0, 1, 0, 0]))) := stmt_ok (Li := [(5, .int .i64), (6, .sl), (7, .int .i64)]) (Lo := []) (Lr := [(4, .bool)]) (S := (fun x w => book_WholeBytes_l0 K K x.1 x.2.1 x.2.2.1 w)) (book_WholeBytes_l0_ok K K) (subR_of h)
theorem book_WholeBytes_facts : FunFacts prog 33 f33 (bodyOf f33) [(0, .sl), (1, .sl)] [(0, 32)] := ⟨func33, by kernel_rfl, by kernel_rfl, by kernel_rfl, by kernel_rfl, by kernel_rfl⟩
theorem book_WholeBytes_calls (K : Nat) (x : TT [(0, .sl), (1, .sl)]) (w : World) (y : TR [.bool]) (w2 : World) (h : book_WholeBytes K x.1 x.2.1 w = some (y, w2)) : Calls prog 33 (encA [(0, .sl), (1, .sl)] x).toArray w (fun e w3 => e = .returned (resV (encR [.bool] y)) ∧ w3 = w2) :=
    mk_fun (O := tabL [([1, 1, 1, 1, 0, 1], book_WholeBytes_l0_se K)]) (Lp := [(0, .sl), (1, .sl)]) (Rt := [.bool]) (S := (fun x w => book_WholeBytes K x.1 x.2.1 w)) (book_WholeBytes_Eok K) (book_WholeBytes_Rok K) rfl book_WholeBytes_facts (Orc.cons (by kernel_rfl) (book_WholeBytes_l0_se_ok K [(0, 32)] (by kernel_rfl)) (Orc.nil _ _ _)) (fun _ _ => by kernel_rfl) x w y w2 h
noncomputable def book_WholeBytes_ce (K : Nat) : CE := funE [(0, .sl), (1, .sl)] [.bool] (fun x w => book_WholeBytes K x.1 x.2.1 w)
theorem book_WholeBytes_ok (K : Nat) : (book_WholeBytes_ce K).Ok prog 33 := funE_ok (Rt := [.bool]) (S := (fun x w => book_WholeBytes K x.1 x.2.1 w)) book_WholeBytes_facts fun x w y w2 h => book_WholeBytes_calls K x w y w2 h

noncomputable def law01_whole_E (K : Nat) : List (Nat × CE) := [(33, book_WholeBytes_ce K)]
theorem law01_whole_Eok (K : Nat) : Env.Ok prog (tab (law01_whole_E K)) := (Env.cons (book_WholeBytes_ok K) (Env.nil _))
noncomputable def law01_whole_R (K : Nat) : List (Nat × RE) := []
theorem law01_whole_Rok (K : Nat) : REnv.Ok prog (tab (law01_whole_R K)) := (REnv.nil _)
noncomputable def law01_whole_l0_b (K : Nat) (rec : Sl → Sl → Int → World → Option ((Out (Unit) (Bool × Unit)) × World)) (l0 : Sl) (parts1 : Sl) (i5 : Int) (w : World) : Option ((Out (Unit) (Bool × Unit)) × World) :=
  if (decide (i5 < ((l0.len : Nat) : Int))) = true then ((l0.a).bind fun p_1 =>
  if (0 : Int) ≤ i5 ∧ i5 < ((l0.len : Nat) : Int) then ((parts1.a).bind fun p_2 =>
  if (0 : Int) ≤ i5 ∧ i5 < ((parts1.len : Nat) : Int) then ((ldS (p_1.add ((Int.toNat i5) * 1)) w.drew).bind fun v_3 =>
  (ldS (p_2.add ((Int.toNat i5) * 1)) w.drew).bind fun v_4 =>
  bnd (book_WholeBytes K v_3 v_4 w.drew) fun r_5 w_6 =>
  if (!r_5.1) = true then (some (.ret (false, ()), w_6)) else (rec l0 parts1 (IntKind.i64.wrap (i5 + 1)) w_6)) else none) else none) else (some (.norm (), w))
noncomputable def law01_whole_l0 (K : Nat) (n : Nat) : Sl → Sl → Int → World → Option ((Out (Unit) (Bool × Unit)) × World) := iter (fun _ _ _ _ => none) (law01_whole_l0_b K) n
/-- coffer/cofferlaw01.whole -/
noncomputable def law01_whole (K : Nat) (l0 : Sl) (parts1 : Sl) (w : World) : Option ((Bool × Unit) × World) :=
  if (((l0.len : Nat) : Int) != ((parts1.len : Nat) : Int)) = true then (some ((false, ()), w)) else (bnd (law01_whole_l0 K K l0 parts1 0 w) fun y_7 w_8 =>
  (match y_7 with
  | .norm z_9n => (some ((true, ()), w_8))
  | .ret z_9r => (some ((z_9r.1, ()), w_8))))
theorem law01_whole_l0_ok (K : Nat) (n : Nat) : StmtOk prog [(0, .sl), (1, .sl), (5, .int .i64)] [] [(4, .bool)] [(4, 6), (11, 27)] ((fun n x w => law01_whole_l0 K n x.1 x.2.1 x.2.2.1 w) n) (.block 0 (.loop (cd (bodyOf f28) [1, 1, 0, 1, 0, 0]))) :=
    mk_loop (O := tabL []) (root := (bodyOf f28)) (π := [1, 1, 0, 1, 0, 0]) (id := 0) (Li := [(0, .sl), (1, .sl), (5, .int .i64)]) (Lo := []) (Lr := [(4, .bool)]) (S := (fun n x w => law01_whole_l0 K n x.1 x.2.1 x.2.2.1 w)) (body := cd (bodyOf f28) [1, 1, 0, 1, 0, 0]) (law01_whole_Eok K) (law01_whole_Rok K) rfl (Orc.nil _ _ _) (by kernel_rfl) (fun _ _ => by kernel_rfl) (fun _ _ _ => by kernel_rfl) n
noncomputable def law01_whole_l0_se (K : Nat) : SE := stmt [(0, .sl), (1, .sl), (5, .int .i64)] [] [(4, .bool)] [(4, 6), (11, 27)] (fun x w => law01_whole_l0 K K x.1 x.2.1 x.2.2.1 w)
theorem law01_whole_l0_se_ok (K : Nat) (R : Rg) (h : subRB [(4, 6), (11, 27)] R = true) : (law01_whole_l0_se K).Ok prog R (.block 0 (.loop (cd (bodyOf f28) [1, 1, 0, 1, 0, 0]))) := stmt_ok (Li := [(0, .sl), (1, .sl), (5, .int .i64)]) (Lo := []) (Lr := [(4, .bool)]) (S := (fun x w => law01_whole_l0 K K x.1 x.2.1 x.2.2.1 w)) (law01_whole_l0_ok K K) (subR_of h)
theorem law01_whole_facts : FunFacts prog 28 f28 (bodyOf f28) [(0, .sl), (1, .sl)] [(0, 27)] := ⟨func28, by kernel_rfl, by kernel_rfl, by kernel_rfl, by kernel_rfl, by kernel_rfl⟩
theorem law01_whole_calls (K : Nat) (x : TT [(0, .sl), (1, .sl)]) (w : World) (y : TR [.bool]) (w2 : World) (h : law01_whole K x.1 x.2.1 w = some (y, w2)) : Calls prog 28 (encA [(0, .sl), (1, .sl)] x).toArray w (fun e w3 => e = .returned (resV (encR [.bool] y)) ∧ w3 = w2) :=
    mk_fun (O := tabL [([1, 1, 0, 1], law01_whole_l0_se K)]) (Lp := [(0, .sl), (1, .sl)]) (Rt := [.bool]) (S := (fun x w => law01_whole K x.1 x.2.1 w)) (law01_whole_Eok K) (law01_whole_Rok K) rfl law01_whole_facts (Orc.cons (by kernel_rfl) (law01_whole_l0_se_ok K [(0, 27)] (by kernel_rfl)) (Orc.nil _ _ _)) (fun _ _ => by kernel_rfl) x w y w2 h
noncomputable def law01_whole_ce (K : Nat) : CE := funE [(0, .sl), (1, .sl)] [.bool] (fun x w => law01_whole K x.1 x.2.1 w)
theorem law01_whole_ok (K : Nat) : (law01_whole_ce K).Ok prog 28 := funE_ok (Rt := [.bool]) (S := (fun x w => law01_whole K x.1 x.2.1 w)) law01_whole_facts fun x w y w2 h => law01_whole_calls K x w y w2 h

noncomputable def book_SpoilBytes_E (K : Nat) : List (Nat × CE) := []
theorem book_SpoilBytes_Eok (K : Nat) : Env.Ok prog (tab (book_SpoilBytes_E K)) := (Env.nil _)
noncomputable def book_SpoilBytes_R (K : Nat) : List (Nat × RE) := []
theorem book_SpoilBytes_Rok (K : Nat) : REnv.Ok prog (tab (book_SpoilBytes_R K)) := (REnv.nil _)
noncomputable def book_SpoilBytes_l0_b (K : Nat) (rec : Sl → Int → World → Option ((Unit) × World)) (l0 : Sl) (i2 : Int) (w : World) : Option ((Unit) × World) :=
  if (decide (i2 < ((l0.len : Nat) : Int))) = true then ((l0.a).bind fun p_1 =>
  if (0 : Int) ≤ i2 ∧ i2 < ((l0.len : Nat) : Int) then ((ldI .u8 (p_1.add ((Int.toNat i2) * 1)) w).bind fun v_2 =>
  (l0.a).bind fun p_3 =>
  if (0 : Int) ≤ i2 ∧ i2 < ((l0.len : Nat) : Int) then ((stC (p_3.add ((Int.toNat i2) * 1)) (.int .u8 (bits .xor .u8 v_2 165)) w).bind fun w_4 =>
  rec l0 (IntKind.i64.wrap (i2 + 1)) w_4) else none) else none) else (some ((), w))
noncomputable def book_SpoilBytes_l0 (K : Nat) (n : Nat) : Sl → Int → World → Option ((Unit) × World) := iter (fun _ _ _ => none) (book_SpoilBytes_l0_b K) n
noncomputable def book_SpoilBytes_l1_b (K : Nat) (rec : Sl → Int → World → Option ((Sl × Unit) × World)) (l0 : Sl) (i3 : Int) (w : World) : Option ((Sl × Unit) × World) :=
  if (decide (i3 < 70)) = true then (bnd (bldS prog 25 1 #[(0, (.int .u8 (IntKind.u8.wrap (IntKind.i64.wrap ((IntKind.i64.wrap (7 * i3)) + 3)))))] w) fun s_11 w_12 =>
  bnd (apd prog 25 25 (.slice l0.a l0.len l0.cap) (.slice s_11.a s_11.len s_11.cap) w_12) fun s_13 w_14 =>
  rec s_13 (IntKind.i64.wrap (i3 + 1)) w_14) else (some ((l0, ()), w))
noncomputable def book_SpoilBytes_l1 (K : Nat) (n : Nat) : Sl → Int → World → Option ((Sl × Unit) × World) := iter (fun _ _ _ => none) (book_SpoilBytes_l1_b K) n
/-- coffer/cofferbook.SpoilBytes -/
noncomputable def book_SpoilBytes (K : Nat) (l0 : Sl) (w : World) : Option ((Unit) × World) :=
  bnd (book_SpoilBytes_l0 K K l0 0 w) fun y_5 w_6 =>
  bnd (bldS prog 25 1 #[(0, (.int .u8 1))] w_6) fun s_7 w_8 =>
  bnd (apd prog 25 25 (.slice l0.a l0.len l0.cap) (.slice s_7.a s_7.len s_7.cap) w_8) fun s_9 w_10 =>
  bnd (book_SpoilBytes_l1 K K s_9 0 w_10) fun y_15 w_16 =>
  (y_15.1.a).bind fun p_17 =>
  if (0 : Int) ≤ (IntKind.i64.wrap (((y_15.1.len : Nat) : Int) - 1)) ∧ (IntKind.i64.wrap (((y_15.1.len : Nat) : Int) - 1)) < ((y_15.1.len : Nat) : Int) then ((stC (p_17.add ((Int.toNat (IntKind.i64.wrap (((y_15.1.len : Nat) : Int) - 1))) * 1)) (.int .u8 77) w_16).bind fun w_18 =>
  some ((), w_18)) else none
theorem book_SpoilBytes_l0_ok (K : Nat) (n : Nat) : StmtNOk prog [(0, .sl), (2, .int .i64)] [] [(2, 3), (4, 18)] ((fun n x w => book_SpoilBytes_l0 K n x.1 x.2.1 w) n) (.block 0 (.loop (cd (bodyOf f29) [0, 1, 0, 0]))) :=
    mk_loopN (O := tabL []) (root := (bodyOf f29)) (π := [0, 1, 0, 0]) (id := 0) (Li := [(0, .sl), (2, .int .i64)]) (Lo := []) (S := (fun n x w => book_SpoilBytes_l0 K n x.1 x.2.1 w)) (body := cd (bodyOf f29) [0, 1, 0, 0]) (book_SpoilBytes_Eok K) (book_SpoilBytes_Rok K) rfl (Orc.nil _ _ _) (by kernel_rfl) (fun _ _ => by kernel_rfl) (fun _ _ _ => by kernel_rfl) n
noncomputable def book_SpoilBytes_l0_se (K : Nat) : SE := stmtN [(0, .sl), (2, .int .i64)] [] [(2, 3), (4, 18)] (fun x w => book_SpoilBytes_l0 K K x.1 x.2.1 w)
theorem book_SpoilBytes_l0_se_ok (K : Nat) (R : Rg) (h : subRB [(2, 3), (4, 18)] R = true) : (book_SpoilBytes_l0_se K).Ok prog R (.block 0 (.loop (cd (bodyOf f29) [0, 1, 0, 0]))) := stmtN_ok (Li := [(0, .sl), (2, .int .i64)]) (Lo := []) (S := (fun x w => book_SpoilBytes_l0 K K x.1 x.2.1 w)) (book_SpoilBytes_l0_ok K K) (subR_of h)
theorem book_SpoilBytes_l1_ok (K : Nat) (n : Nat) : StmtNOk prog [(0, .sl), (3, .int .i64)] [(0, .sl)] [(0, 1), (3, 4), (21, 32)] ((fun n x w => book_SpoilBytes_l1 K n x.1 x.2.1 w) n) (.block 2 (.loop (cd (bodyOf f29) [1, 1, 0, 1, 0, 0]))) :=
    mk_loopN (O := tabL []) (root := (bodyOf f29)) (π := [1, 1, 0, 1, 0, 0]) (id := 2) (Li := [(0, .sl), (3, .int .i64)]) (Lo := [(0, .sl)]) (S := (fun n x w => book_SpoilBytes_l1 K n x.1 x.2.1 w)) (body := cd (bodyOf f29) [1, 1, 0, 1, 0, 0]) (book_SpoilBytes_Eok K) (book_SpoilBytes_Rok K) rfl (Orc.nil _ _ _) (by kernel_rfl) (fun _ _ => by kernel_rfl) (fun _ _ _ => by kernel_rfl) n
noncomputable def book_SpoilBytes_l1_se (K : Nat) : SE := stmtN [(0, .sl), (3, .int .i64)] [(0, .sl)] [(0, 1), (3, 4), (21, 32)] (fun x w => book_SpoilBytes_l1 K K x.1 x.2.1 w)
theorem book_SpoilBytes_l1_se_ok (K : Nat) (R : Rg) (h : subRB [(0, 1), (3, 4), (21, 32)] R = true) : (book_SpoilBytes_l1_se K).Ok prog R (.block 2 (.loop (cd (bodyOf f29) [1, 1, 0, 1, 0, 0]))) := stmtN_ok (Li := [(0, .sl), (3, .int .i64)]) (Lo := [(0, .sl)]) (S := (fun x w => book_SpoilBytes_l1 K K x.1 x.2.1 w)) (book_SpoilBytes_l1_ok K K) (subR_of h)
theorem book_SpoilBytes_facts : FunFacts prog 29 f29 (bodyOf f29) [(0, .sl)] [(0, 37)] := ⟨func29, by kernel_rfl, by kernel_rfl, by kernel_rfl, by kernel_rfl, by kernel_rfl⟩
theorem book_SpoilBytes_calls (K : Nat) (x : TT [(0, .sl)]) (w : World) (y : TR []) (w2 : World) (h : book_SpoilBytes K x.1 w = some (y, w2)) : Calls prog 29 (encA [(0, .sl)] x).toArray w (fun e w3 => e = .returned (resV (encR [] y)) ∧ w3 = w2) :=
    mk_fun (O := tabL [([0, 1], book_SpoilBytes_l0_se K), ([1, 1, 0, 1], book_SpoilBytes_l1_se K)]) (Lp := [(0, .sl)]) (Rt := []) (S := (fun x w => book_SpoilBytes K x.1 w)) (book_SpoilBytes_Eok K) (book_SpoilBytes_Rok K) rfl book_SpoilBytes_facts (Orc.cons (by kernel_rfl) (book_SpoilBytes_l0_se_ok K [(0, 37)] (by kernel_rfl)) (Orc.cons (by kernel_rfl) (book_SpoilBytes_l1_se_ok K [(0, 37)] (by kernel_rfl)) (Orc.nil _ _ _))) (fun _ _ => by kernel_rfl) x w y w2 h
noncomputable def book_SpoilBytes_ce (K : Nat) : CE := funE [(0, .sl)] [] (fun x w => book_SpoilBytes K x.1 w)
theorem book_SpoilBytes_ok (K : Nat) : (book_SpoilBytes_ce K).Ok prog 29 := funE_ok (Rt := []) (S := (fun x w => book_SpoilBytes K x.1 w)) book_SpoilBytes_facts fun x w y w2 h => book_SpoilBytes_calls K x w y w2 h

end Go.Sh
