/- What functions of the program do, as Lean functions; that the machine does just that. Printed by shal.py, a program of this claim's writer. -/
import Derived.Test.YtgmdbhckccmhjaaDoorSh0
set_option maxRecDepth 100000
set_option linter.unusedVariables false
namespace Go.Sh
open Go.Fw Go.Proofs.Tryd

noncomputable def digest_wide_E (K : Nat) : List (Nat × CE) := []
theorem digest_wide_Eok (K : Nat) : Env.Ok prog (tab (digest_wide_E K)) := (Env.nil _)
noncomputable def digest_wide_R (K : Nat) : List (Nat × RE) := [(93, bits_RotateLeft64_re)]
theorem digest_wide_Rok (K : Nat) : REnv.Ok prog (tab (digest_wide_R K)) := (REnv.cons (bits_RotateLeft64_ok) (REnv.nil _))
noncomputable def digest_wide_l2_b (K : Nat) (rec : Option Addr → Sl → Addr → Int → Int → Sl → Int → Int → World → Option ((Unit) × World)) (h0 : Option Addr) (b1 : Sl) (w4 : Addr) (i5 : Int) (a30 : Int) (a39 : Sl) (a40 : Int) (a41 : Int) (w : World) : Option ((Unit) × World) :=
  if (decide (a41 < a40)) = true then ((a39.a).bind fun p_3 =>
  if (0 : Int) ≤ a41 ∧ a41 < ((a39.len : Nat) : Int) then ((ldI .u8 (p_3.add ((Int.toNat a41) * 1)) w).bind fun v_4 =>
  if (0 : Int) ≤ i5 ∧ i5 < ((80 : Nat) : Int) then ((ldI .u64 (w4.add ((Int.toNat i5) * 1)) w).bind fun v_5 =>
  if (0 : Int) ≤ i5 ∧ i5 < ((80 : Nat) : Int) then ((stC (w4.add ((Int.toNat i5) * 1)) (.int .u64 (bits .or .u64 (IntKind.u64.wrap (v_5 * 2 ^ 8)) (IntKind.u64.wrap v_4))) w).bind fun w_6 =>
  rec h0 b1 w4 i5 a30 a39 a40 (IntKind.i64.wrap (a41 + 1)) w_6) else none) else none) else none) else (some ((), w))
noncomputable def digest_wide_l2 (K : Nat) (n : Nat) : Option Addr → Sl → Addr → Int → Int → Sl → Int → Int → World → Option ((Unit) × World) := iter (fun _ _ _ _ _ _ _ _ _ => none) (digest_wide_l2_b K) n
noncomputable def digest_wide_l1_b (K : Nat) (rec : Option Addr → Sl → Addr → Int → World → Option ((Unit) × World)) (h0 : Option Addr) (b1 : Sl) (w4 : Addr) (a30 : Int) (w : World) : Option ((Unit) × World) :=
  if (decide (a30 < 16)) = true then (if (0 : Int) ≤ (IntKind.i64.wrap ((IntKind.i64.wrap (8 * a30)) + 8)) ∧ (IntKind.i64.wrap ((IntKind.i64.wrap (8 * a30)) + 8)) ≤ ((b1.cap : Nat) : Int) then (if (0 : Int) ≤ (IntKind.i64.wrap (8 * a30)) ∧ (IntKind.i64.wrap (8 * a30)) ≤ (((Int.toNat ((IntKind.i64.wrap ((IntKind.i64.wrap (8 * a30)) + 8)))) : Nat) : Int) then (bnd (digest_wide_l2 K K h0 b1 w4 a30 a30 ⟨(sla b1.a (Int.toNat ((IntKind.i64.wrap (8 * a30)))) b1.cap 1), ((Int.toNat ((IntKind.i64.wrap ((IntKind.i64.wrap (8 * a30)) + 8)))) - (Int.toNat ((IntKind.i64.wrap (8 * a30))))), (b1.cap - (Int.toNat ((IntKind.i64.wrap (8 * a30)))))⟩ ((((Int.toNat ((IntKind.i64.wrap ((IntKind.i64.wrap (8 * a30)) + 8)))) - (Int.toNat ((IntKind.i64.wrap (8 * a30))))) : Nat) : Int) 0 w) fun y_7 w_8 =>
  rec h0 b1 w4 (IntKind.i64.wrap (a30 + 1)) w_8) else none) else none) else (some ((), w))
noncomputable def digest_wide_l1 (K : Nat) (n : Nat) : Option Addr → Sl → Addr → Int → World → Option ((Unit) × World) := iter (fun _ _ _ _ _ => none) (digest_wide_l1_b K) n
noncomputable def digest_wide_l3_b (K : Nat) (rec : Option Addr → Sl → Addr → Int → World → Option ((Unit) × World)) (h0 : Option Addr) (b1 : Sl) (w4 : Addr) (i8 : Int) (w : World) : Option ((Unit) × World) :=
  if (decide (i8 < 80)) = true then (if (0 : Int) ≤ (IntKind.i64.wrap (i8 - 15)) ∧ (IntKind.i64.wrap (i8 - 15)) < ((80 : Nat) : Int) then (if (0 : Int) ≤ (IntKind.i64.wrap (i8 - 2)) ∧ (IntKind.i64.wrap (i8 - 2)) < ((80 : Nat) : Int) then ((ldI .u64 (w4.add ((Int.toNat (IntKind.i64.wrap (i8 - 15))) * 1)) w.drew).bind fun v_11 =>
  (ldI .u64 (w4.add ((Int.toNat (IntKind.i64.wrap (i8 - 2))) * 1)) w.drew).bind fun v_12 =>
  if (0 : Int) ≤ (IntKind.i64.wrap (i8 - 16)) ∧ (IntKind.i64.wrap (i8 - 16)) < ((80 : Nat) : Int) then (if (0 : Int) ≤ (IntKind.i64.wrap (i8 - 7)) ∧ (IntKind.i64.wrap (i8 - 7)) < ((80 : Nat) : Int) then ((ldI .u64 (w4.add ((Int.toNat (IntKind.i64.wrap (i8 - 16))) * 1)) w.drew.drew).bind fun v_13 =>
  (ldI .u64 (w4.add ((Int.toNat (IntKind.i64.wrap (i8 - 7))) * 1)) w.drew.drew).bind fun v_14 =>
  (bits_RotateLeft64 v_11 (-1)).bind fun r_15 =>
  (bits_RotateLeft64 v_11 (-8)).bind fun r_16 =>
  (bits_RotateLeft64 v_12 (-19)).bind fun r_17 =>
  (bits_RotateLeft64 v_12 (-61)).bind fun r_18 =>
  if (0 : Int) ≤ i8 ∧ i8 < ((80 : Nat) : Int) then ((stC (w4.add ((Int.toNat i8) * 1)) (.int .u64 (IntKind.u64.wrap ((IntKind.u64.wrap ((IntKind.u64.wrap (v_13 + v_14)) + (bits .xor .u64 (bits .xor .u64 r_15.1 r_16.1) (Int.fdiv v_11 (2 ^ 7))))) + (bits .xor .u64 (bits .xor .u64 r_17.1 r_18.1) (Int.fdiv v_12 (2 ^ 6)))))) w.drew.drew).bind fun w_19 =>
  rec h0 b1 w4 (IntKind.i64.wrap (i8 + 1)) w_19) else none) else none) else none) else none) else none) else (some ((), w))
noncomputable def digest_wide_l3 (K : Nat) (n : Nat) : Option Addr → Sl → Addr → Int → World → Option ((Unit) × World) := iter (fun _ _ _ _ _ => none) (digest_wide_l3_b K) n
noncomputable def digest_wide_l4_b (K : Nat) (rec : Option Addr → Sl → Addr → Int → Int → Int → Int → Int → Int → Int → Int → Array Value → Int → World → Option ((Int × Int × Int × Int × Int × Int × Int × Int × Unit) × World)) (h0 : Option Addr) (b1 : Sl) (w4 : Addr) (a11 : Int) (b112 : Int) (c13 : Int) (d14 : Int) (e15 : Int) (f16 : Int) (g17 : Int) (k18 : Int) (a129 : Array Value) (a130 : Int) (w : World) : Option ((Int × Int × Int × Int × Int × Int × Int × Int × Unit) × World) :=
  if (decide (a130 < 80)) = true then (if (0 : Int) ≤ a130 ∧ a130 < ((80 : Nat) : Int) then ((a129[((Int.toNat a130) * 1)]?).bind fun v_39 =>
  (asI .u64 v_39).bind fun v_40 =>
  if (0 : Int) ≤ a130 ∧ a130 < ((80 : Nat) : Int) then ((bits_RotateLeft64 e15 (-14)).bind fun r_41 =>
  (bits_RotateLeft64 e15 (-18)).bind fun r_42 =>
  (bits_RotateLeft64 e15 (-41)).bind fun r_43 =>
  (ldI .u64 (w4.add ((Int.toNat a130) * 1)) w.drew).bind fun v_44 =>
  (bits_RotateLeft64 a11 (-28)).bind fun r_45 =>
  (bits_RotateLeft64 a11 (-34)).bind fun r_46 =>
  (bits_RotateLeft64 a11 (-39)).bind fun r_47 =>
  rec h0 b1 w4 (IntKind.u64.wrap ((IntKind.u64.wrap ((IntKind.u64.wrap ((IntKind.u64.wrap ((IntKind.u64.wrap (k18 + (bits .xor .u64 (bits .xor .u64 r_41.1 r_42.1) r_43.1))) + (bits .xor .u64 (bits .and .u64 e15 f16) (bits .and .u64 (bits .xor .u64 IntKind.u64.max e15) g17)))) + v_40)) + v_44)) + (IntKind.u64.wrap ((bits .xor .u64 (bits .xor .u64 r_45.1 r_46.1) r_47.1) + (bits .xor .u64 (bits .xor .u64 (bits .and .u64 a11 b112) (bits .and .u64 a11 c13)) (bits .and .u64 b112 c13)))))) a11 b112 c13 (IntKind.u64.wrap (d14 + (IntKind.u64.wrap ((IntKind.u64.wrap ((IntKind.u64.wrap ((IntKind.u64.wrap (k18 + (bits .xor .u64 (bits .xor .u64 r_41.1 r_42.1) r_43.1))) + (bits .xor .u64 (bits .and .u64 e15 f16) (bits .and .u64 (bits .xor .u64 IntKind.u64.max e15) g17)))) + v_40)) + v_44)))) e15 f16 g17 a129 (IntKind.i64.wrap (a130 + 1)) w.drew) else none) else none) else (some ((a11, b112, c13, d14, e15, f16, g17, k18, ()), w))
noncomputable def digest_wide_l4 (K : Nat) (n : Nat) : Option Addr → Sl → Addr → Int → Int → Int → Int → Int → Int → Int → Int → Array Value → Int → World → Option ((Int × Int × Int × Int × Int × Int × Int × Int × Unit) × World) := iter (fun _ _ _ _ _ _ _ _ _ _ _ _ _ _ => none) (digest_wide_l4_b K) n
noncomputable def digest_wide_l5_b (K : Nat) (rec : Option Addr → Sl → Addr → Array Value → Int → World → Option ((Unit) × World)) (h0 : Option Addr) (b1 : Sl) (w4 : Addr) (a200 : Array Value) (a201 : Int) (w : World) : Option ((Unit) × World) :=
  if (decide (a201 < 8)) = true then (if (0 : Int) ≤ a201 ∧ a201 < ((8 : Nat) : Int) then ((a200[((Int.toNat a201) * 1)]?).bind fun v_51 =>
  (asI .u64 v_51).bind fun v_52 =>
  (h0).bind fun p_53 =>
  if (0 : Int) ≤ a201 ∧ a201 < ((8 : Nat) : Int) then ((h0).bind fun p_54 =>
  (ldI .u64 (p_53.add ((Int.toNat a201) * 1)) w.drew).bind fun v_55 =>
  if (0 : Int) ≤ a201 ∧ a201 < ((8 : Nat) : Int) then ((stC (p_54.add ((Int.toNat a201) * 1)) (.int .u64 (IntKind.u64.wrap (v_55 + v_52))) w.drew).bind fun w_56 =>
  rec h0 b1 w4 a200 (IntKind.i64.wrap (a201 + 1)) w_56) else none) else none) else none) else (some ((), w))
noncomputable def digest_wide_l5 (K : Nat) (n : Nat) : Option Addr → Sl → Addr → Array Value → Int → World → Option ((Unit) × World) := iter (fun _ _ _ _ _ _ => none) (digest_wide_l5_b K) n
noncomputable def digest_wide_l0_b (K : Nat) (rec : Option Addr → Sl → Addr → World → Option ((Unit) × World)) (h0 : Option Addr) (b1 : Sl) (w4 : Addr) (w : World) : Option ((Unit) × World) :=
  if (decide (((b1.len : Nat) : Int) ≥ 128)) = true then (bnd (digest_wide_l1 K K h0 b1 w4 0 w) fun y_9 w_10 =>
  bnd (digest_wide_l3 K K h0 b1 w4 16 w_10) fun y_20 w_21 =>
  (h0).bind fun p_22 =>
  (h0).bind fun p_23 =>
  (h0).bind fun p_24 =>
  (h0).bind fun p_25 =>
  (h0).bind fun p_26 =>
  (h0).bind fun p_27 =>
  (h0).bind fun p_28 =>
  (h0).bind fun p_29 =>
  (ldI .u64 (p_22.add (0 * 1)) w_21.drew).bind fun v_30 =>
  (ldI .u64 (p_23.add (1 * 1)) w_21.drew).bind fun v_31 =>
  (ldI .u64 (p_24.add (2 * 1)) w_21.drew).bind fun v_32 =>
  (ldI .u64 (p_25.add (3 * 1)) w_21.drew).bind fun v_33 =>
  (ldI .u64 (p_26.add (4 * 1)) w_21.drew).bind fun v_34 =>
  (ldI .u64 (p_27.add (5 * 1)) w_21.drew).bind fun v_35 =>
  (ldI .u64 (p_28.add (6 * 1)) w_21.drew).bind fun v_36 =>
  (ldI .u64 (p_29.add (7 * 1)) w_21.drew).bind fun v_37 =>
  (ldA 80 (⟨2, 0, none⟩ : Addr) w_21.drew).bind fun v_38 =>
  bnd (digest_wide_l4 K K h0 b1 w4 v_30 v_31 v_32 v_33 v_34 v_35 v_36 v_37 v_38 0 w_21.drew) fun y_48 w_49 =>
  (prog.built 80 [(0, (.int .u64 y_48.1)), (1, (.int .u64 y_48.2.1)), (2, (.int .u64 y_48.2.2.1)), (3, (.int .u64 y_48.2.2.2.1)), (4, (.int .u64 y_48.2.2.2.2.1)), (5, (.int .u64 y_48.2.2.2.2.2.1)), (6, (.int .u64 y_48.2.2.2.2.2.2.1)), (7, (.int .u64 y_48.2.2.2.2.2.2.2.1))]).bind fun cs_50 =>
  bnd (digest_wide_l5 K K h0 b1 w4 cs_50 0 w_49) fun y_57 w_58 =>
  if (0 : Int) ≤ 128 ∧ 128 ≤ ((b1.len : Nat) : Int) then (rec h0 ⟨(sla b1.a 128 b1.cap 1), (b1.len - 128), (b1.cap - 128)⟩ w4 w_58) else none) else (some ((), w))
noncomputable def digest_wide_l0 (K : Nat) (n : Nat) : Option Addr → Sl → Addr → World → Option ((Unit) × World) := iter (fun _ _ _ _ => none) (digest_wide_l0_b K) n
/-- coffer/digest.wide -/
noncomputable def digest_wide (K : Nat) (h0 : Option Addr) (b1 : Sl) (w : World) : Option ((Unit) × World) :=
  bnd (newB z125 125 w) fun w_1 w_2 =>
  bnd (digest_wide_l0 K K h0 b1 w_1 w_2) fun y_59 w_60 =>
  some ((), w_60)
theorem digest_wide_l2_ok (K : Nat) (n : Nat) : StmtNOk prog [(0, .ptr), (1, .sl), (4, .addr), (5, .int .i64), (30, .int .i64), (39, .sl), (40, .int .i64), (41, .int .i64)] [] [(7, 8), (41, 55)] ((fun n x w => digest_wide_l2 K n x.1 x.2.1 x.2.2.1 x.2.2.2.1 x.2.2.2.2.1 x.2.2.2.2.2.1 x.2.2.2.2.2.2.1 x.2.2.2.2.2.2.2.1 w) n) (.block 4 (.loop (cd (bodyOf f81) [1, 0, 0, 1, 0, 0, 0, 1, 0, 0, 1, 1, 0, 0, 1, 1, 0, 0]))) :=
    mk_loopN (O := tabL []) (root := (bodyOf f81)) (π := [1, 0, 0, 1, 0, 0, 0, 1, 0, 0, 1, 1, 0, 0, 1, 1, 0, 0]) (id := 4) (Li := [(0, .ptr), (1, .sl), (4, .addr), (5, .int .i64), (30, .int .i64), (39, .sl), (40, .int .i64), (41, .int .i64)]) (Lo := []) (S := (fun n x w => digest_wide_l2 K n x.1 x.2.1 x.2.2.1 x.2.2.2.1 x.2.2.2.2.1 x.2.2.2.2.2.1 x.2.2.2.2.2.2.1 x.2.2.2.2.2.2.2.1 w)) (body := cd (bodyOf f81) [1, 0, 0, 1, 0, 0, 0, 1, 0, 0, 1, 1, 0, 0, 1, 1, 0, 0]) (digest_wide_Eok K) (digest_wide_Rok K) rfl (Orc.nil _ _ _) (by kernel_rfl) (fun _ _ => by kernel_rfl) (fun _ _ _ => by kernel_rfl) n
noncomputable def digest_wide_l2_se (K : Nat) : SE := stmtN [(0, .ptr), (1, .sl), (4, .addr), (5, .int .i64), (30, .int .i64), (39, .sl), (40, .int .i64), (41, .int .i64)] [] [(7, 8), (41, 55)] (fun x w => digest_wide_l2 K K x.1 x.2.1 x.2.2.1 x.2.2.2.1 x.2.2.2.2.1 x.2.2.2.2.2.1 x.2.2.2.2.2.2.1 x.2.2.2.2.2.2.2.1 w)
theorem digest_wide_l2_se_ok (K : Nat) (R : Rg) (h : subRB [(7, 8), (41, 55)] R = true) : (digest_wide_l2_se K).Ok prog R (.block 4 (.loop (cd (bodyOf f81) [1, 0, 0, 1, 0, 0, 0, 1, 0, 0, 1, 1, 0, 0, 1, 1, 0, 0]))) := stmtN_ok (Li := [(0, .ptr), (1, .sl), (4, .addr), (5, .int .i64), (30, .int .i64), (39, .sl), (40, .int .i64), (41, .int .i64)]) (Lo := []) (S := (fun x w => digest_wide_l2 K K x.1 x.2.1 x.2.2.1 x.2.2.2.1 x.2.2.2.2.1 x.2.2.2.2.2.1 x.2.2.2.2.2.2.1 x.2.2.2.2.2.2.2.1 w)) (digest_wide_l2_ok K K) (subR_of h)
theorem digest_wide_l1_ok (K : Nat) (n : Nat) : StmtNOk prog [(0, .ptr), (1, .sl), (4, .addr), (30, .int .i64)] [] [(5, 6), (7, 8), (30, 56)] ((fun n x w => digest_wide_l1 K n x.1 x.2.1 x.2.2.1 x.2.2.2.1 w) n) (.block 2 (.loop (cd (bodyOf f81) [1, 0, 0, 1, 0, 0, 0, 1, 0, 0]))) :=
    mk_loopN (O := tabL [([1, 0, 0, 1, 0, 0, 0, 1, 0, 0, 1, 1, 0, 0, 1, 1], digest_wide_l2_se K)]) (root := (bodyOf f81)) (π := [1, 0, 0, 1, 0, 0, 0, 1, 0, 0]) (id := 2) (Li := [(0, .ptr), (1, .sl), (4, .addr), (30, .int .i64)]) (Lo := []) (S := (fun n x w => digest_wide_l1 K n x.1 x.2.1 x.2.2.1 x.2.2.2.1 w)) (body := cd (bodyOf f81) [1, 0, 0, 1, 0, 0, 0, 1, 0, 0]) (digest_wide_Eok K) (digest_wide_Rok K) rfl (Orc.cons (by kernel_rfl) (digest_wide_l2_se_ok K [(5, 6), (7, 8), (30, 56)] (by kernel_rfl)) (Orc.nil _ _ _)) (by kernel_rfl) (fun _ _ => by kernel_rfl) (fun _ _ _ => by kernel_rfl) n
noncomputable def digest_wide_l1_se (K : Nat) : SE := stmtN [(0, .ptr), (1, .sl), (4, .addr), (30, .int .i64)] [] [(5, 6), (7, 8), (30, 56)] (fun x w => digest_wide_l1 K K x.1 x.2.1 x.2.2.1 x.2.2.2.1 w)
theorem digest_wide_l1_se_ok (K : Nat) (R : Rg) (h : subRB [(5, 6), (7, 8), (30, 56)] R = true) : (digest_wide_l1_se K).Ok prog R (.block 2 (.loop (cd (bodyOf f81) [1, 0, 0, 1, 0, 0, 0, 1, 0, 0]))) := stmtN_ok (Li := [(0, .ptr), (1, .sl), (4, .addr), (30, .int .i64)]) (Lo := []) (S := (fun x w => digest_wide_l1 K K x.1 x.2.1 x.2.2.1 x.2.2.2.1 w)) (digest_wide_l1_ok K K) (subR_of h)
theorem digest_wide_l3_ok (K : Nat) (n : Nat) : StmtNOk prog [(0, .ptr), (1, .sl), (4, .addr), (8, .int .i64)] [] [(8, 11), (56, 97)] ((fun n x w => digest_wide_l3 K n x.1 x.2.1 x.2.2.1 x.2.2.2.1 w) n) (.block 6 (.loop (cd (bodyOf f81) [1, 0, 0, 1, 0, 0, 1, 0, 1, 0, 0]))) :=
    mk_loopN (O := tabL []) (root := (bodyOf f81)) (π := [1, 0, 0, 1, 0, 0, 1, 0, 1, 0, 0]) (id := 6) (Li := [(0, .ptr), (1, .sl), (4, .addr), (8, .int .i64)]) (Lo := []) (S := (fun n x w => digest_wide_l3 K n x.1 x.2.1 x.2.2.1 x.2.2.2.1 w)) (body := cd (bodyOf f81) [1, 0, 0, 1, 0, 0, 1, 0, 1, 0, 0]) (digest_wide_Eok K) (digest_wide_Rok K) rfl (Orc.nil _ _ _) (by kernel_rfl) (fun _ _ => by kernel_rfl) (fun _ _ _ => by kernel_rfl) n
noncomputable def digest_wide_l3_se (K : Nat) : SE := stmtN [(0, .ptr), (1, .sl), (4, .addr), (8, .int .i64)] [] [(8, 11), (56, 97)] (fun x w => digest_wide_l3 K K x.1 x.2.1 x.2.2.1 x.2.2.2.1 w)
theorem digest_wide_l3_se_ok (K : Nat) (R : Rg) (h : subRB [(8, 11), (56, 97)] R = true) : (digest_wide_l3_se K).Ok prog R (.block 6 (.loop (cd (bodyOf f81) [1, 0, 0, 1, 0, 0, 1, 0, 1, 0, 0]))) := stmtN_ok (Li := [(0, .ptr), (1, .sl), (4, .addr), (8, .int .i64)]) (Lo := []) (S := (fun x w => digest_wide_l3 K K x.1 x.2.1 x.2.2.1 x.2.2.2.1 w)) (digest_wide_l3_ok K K) (subR_of h)
theorem digest_wide_l4_ok (K : Nat) (n : Nat) : StmtNOk prog [(0, .ptr), (1, .sl), (4, .addr), (11, .int .u64), (12, .int .u64), (13, .int .u64), (14, .int .u64), (15, .int .u64), (16, .int .u64), (17, .int .u64), (18, .int .u64), (129, .agg), (130, .int .i64)] [(11, .int .u64), (12, .int .u64), (13, .int .u64), (14, .int .u64), (15, .int .u64), (16, .int .u64), (17, .int .u64), (18, .int .u64)] [(11, 23), (130, 192)] ((fun n x w => digest_wide_l4 K n x.1 x.2.1 x.2.2.1 x.2.2.2.1 x.2.2.2.2.1 x.2.2.2.2.2.1 x.2.2.2.2.2.2.1 x.2.2.2.2.2.2.2.1 x.2.2.2.2.2.2.2.2.1 x.2.2.2.2.2.2.2.2.2.1 x.2.2.2.2.2.2.2.2.2.2.1 x.2.2.2.2.2.2.2.2.2.2.2.1 x.2.2.2.2.2.2.2.2.2.2.2.2.1 w) n) (.block 8 (.loop (cd (bodyOf f81) [1, 0, 0, 1, 0, 0, 1, 1, 1, 0, 1, 0, 0]))) :=
    mk_loopN (O := tabL []) (root := (bodyOf f81)) (π := [1, 0, 0, 1, 0, 0, 1, 1, 1, 0, 1, 0, 0]) (id := 8) (Li := [(0, .ptr), (1, .sl), (4, .addr), (11, .int .u64), (12, .int .u64), (13, .int .u64), (14, .int .u64), (15, .int .u64), (16, .int .u64), (17, .int .u64), (18, .int .u64), (129, .agg), (130, .int .i64)]) (Lo := [(11, .int .u64), (12, .int .u64), (13, .int .u64), (14, .int .u64), (15, .int .u64), (16, .int .u64), (17, .int .u64), (18, .int .u64)]) (S := (fun n x w => digest_wide_l4 K n x.1 x.2.1 x.2.2.1 x.2.2.2.1 x.2.2.2.2.1 x.2.2.2.2.2.1 x.2.2.2.2.2.2.1 x.2.2.2.2.2.2.2.1 x.2.2.2.2.2.2.2.2.1 x.2.2.2.2.2.2.2.2.2.1 x.2.2.2.2.2.2.2.2.2.2.1 x.2.2.2.2.2.2.2.2.2.2.2.1 x.2.2.2.2.2.2.2.2.2.2.2.2.1 w)) (body := cd (bodyOf f81) [1, 0, 0, 1, 0, 0, 1, 1, 1, 0, 1, 0, 0]) (digest_wide_Eok K) (digest_wide_Rok K) rfl (Orc.nil _ _ _) (by kernel_rfl) (fun _ _ => by kernel_rfl) (fun _ _ _ => by kernel_rfl) n
noncomputable def digest_wide_l4_se (K : Nat) : SE := stmtN [(0, .ptr), (1, .sl), (4, .addr), (11, .int .u64), (12, .int .u64), (13, .int .u64), (14, .int .u64), (15, .int .u64), (16, .int .u64), (17, .int .u64), (18, .int .u64), (129, .agg), (130, .int .i64)] [(11, .int .u64), (12, .int .u64), (13, .int .u64), (14, .int .u64), (15, .int .u64), (16, .int .u64), (17, .int .u64), (18, .int .u64)] [(11, 23), (130, 192)] (fun x w => digest_wide_l4 K K x.1 x.2.1 x.2.2.1 x.2.2.2.1 x.2.2.2.2.1 x.2.2.2.2.2.1 x.2.2.2.2.2.2.1 x.2.2.2.2.2.2.2.1 x.2.2.2.2.2.2.2.2.1 x.2.2.2.2.2.2.2.2.2.1 x.2.2.2.2.2.2.2.2.2.2.1 x.2.2.2.2.2.2.2.2.2.2.2.1 x.2.2.2.2.2.2.2.2.2.2.2.2.1 w)
theorem digest_wide_l4_se_ok (K : Nat) (R : Rg) (h : subRB [(11, 23), (130, 192)] R = true) : (digest_wide_l4_se K).Ok prog R (.block 8 (.loop (cd (bodyOf f81) [1, 0, 0, 1, 0, 0, 1, 1, 1, 0, 1, 0, 0]))) := stmtN_ok (Li := [(0, .ptr), (1, .sl), (4, .addr), (11, .int .u64), (12, .int .u64), (13, .int .u64), (14, .int .u64), (15, .int .u64), (16, .int .u64), (17, .int .u64), (18, .int .u64), (129, .agg), (130, .int .i64)]) (Lo := [(11, .int .u64), (12, .int .u64), (13, .int .u64), (14, .int .u64), (15, .int .u64), (16, .int .u64), (17, .int .u64), (18, .int .u64)]) (S := (fun x w => digest_wide_l4 K K x.1 x.2.1 x.2.2.1 x.2.2.2.1 x.2.2.2.2.1 x.2.2.2.2.2.1 x.2.2.2.2.2.2.1 x.2.2.2.2.2.2.2.1 x.2.2.2.2.2.2.2.2.1 x.2.2.2.2.2.2.2.2.2.1 x.2.2.2.2.2.2.2.2.2.2.1 x.2.2.2.2.2.2.2.2.2.2.2.1 x.2.2.2.2.2.2.2.2.2.2.2.2.1 w)) (digest_wide_l4_ok K K) (subR_of h)
theorem digest_wide_l5_ok (K : Nat) (n : Nat) : StmtNOk prog [(0, .ptr), (1, .sl), (4, .addr), (200, .agg), (201, .int .i64)] [] [(23, 25), (201, 215)] ((fun n x w => digest_wide_l5 K n x.1 x.2.1 x.2.2.1 x.2.2.2.1 x.2.2.2.2.1 w) n) (.block 10 (.loop (cd (bodyOf f81) [1, 0, 0, 1, 0, 0, 1, 1, 1, 1, 1, 0, 0]))) :=
    mk_loopN (O := tabL []) (root := (bodyOf f81)) (π := [1, 0, 0, 1, 0, 0, 1, 1, 1, 1, 1, 0, 0]) (id := 10) (Li := [(0, .ptr), (1, .sl), (4, .addr), (200, .agg), (201, .int .i64)]) (Lo := []) (S := (fun n x w => digest_wide_l5 K n x.1 x.2.1 x.2.2.1 x.2.2.2.1 x.2.2.2.2.1 w)) (body := cd (bodyOf f81) [1, 0, 0, 1, 0, 0, 1, 1, 1, 1, 1, 0, 0]) (digest_wide_Eok K) (digest_wide_Rok K) rfl (Orc.nil _ _ _) (by kernel_rfl) (fun _ _ => by kernel_rfl) (fun _ _ _ => by kernel_rfl) n
noncomputable def digest_wide_l5_se (K : Nat) : SE := stmtN [(0, .ptr), (1, .sl), (4, .addr), (200, .agg), (201, .int .i64)] [] [(23, 25), (201, 215)] (fun x w => digest_wide_l5 K K x.1 x.2.1 x.2.2.1 x.2.2.2.1 x.2.2.2.2.1 w)
theorem digest_wide_l5_se_ok (K : Nat) (R : Rg) (h : subRB [(23, 25), (201, 215)] R = true) : (digest_wide_l5_se K).Ok prog R (.block 10 (.loop (cd (bodyOf f81) [1, 0, 0, 1, 0, 0, 1, 1, 1, 1, 1, 0, 0]))) := stmtN_ok (Li := [(0, .ptr), (1, .sl), (4, .addr), (200, .agg), (201, .int .i64)]) (Lo := []) (S := (fun x w => digest_wide_l5 K K x.1 x.2.1 x.2.2.1 x.2.2.2.1 x.2.2.2.2.1 w)) (digest_wide_l5_ok K K) (subR_of h)
theorem digest_wide_l0_ok (K : Nat) (n : Nat) : StmtNOk prog [(0, .ptr), (1, .sl), (4, .addr)] [] [(1, 2), (5, 6), (7, 215)] ((fun n x w => digest_wide_l0 K n x.1 x.2.1 x.2.2.1 w) n) (.block 0 (.loop (cd (bodyOf f81) [1, 0, 0]))) :=
    mk_loopN (O := tabL [([1, 0, 0, 1, 0, 0, 0, 1], digest_wide_l1_se K), ([1, 0, 0, 1, 0, 0, 0, 1, 0, 0, 1, 1, 0, 0, 1, 1], digest_wide_l2_se K), ([1, 0, 0, 1, 0, 0, 1, 0, 1], digest_wide_l3_se K), ([1, 0, 0, 1, 0, 0, 1, 1, 1, 0, 1], digest_wide_l4_se K), ([1, 0, 0, 1, 0, 0, 1, 1, 1, 1, 1], digest_wide_l5_se K)]) (root := (bodyOf f81)) (π := [1, 0, 0]) (id := 0) (Li := [(0, .ptr), (1, .sl), (4, .addr)]) (Lo := []) (S := (fun n x w => digest_wide_l0 K n x.1 x.2.1 x.2.2.1 w)) (body := cd (bodyOf f81) [1, 0, 0]) (digest_wide_Eok K) (digest_wide_Rok K) rfl (Orc.cons (by kernel_rfl) (digest_wide_l1_se_ok K [(1, 2), (5, 6), (7, 215)] (by kernel_rfl)) (Orc.cons (by kernel_rfl) (digest_wide_l2_se_ok K [(1, 2), (5, 6), (7, 215)] (by kernel_rfl)) (Orc.cons (by kernel_rfl) (digest_wide_l3_se_ok K [(1, 2), (5, 6), (7, 215)] (by kernel_rfl)) (Orc.cons (by kernel_rfl) (digest_wide_l4_se_ok K [(1, 2), (5, 6), (7, 215)] (by kernel_rfl)) (Orc.cons (by kernel_rfl) (digest_wide_l5_se_ok K [(1, 2), (5, 6), (7, 215)] (by kernel_rfl)) (Orc.nil _ _ _)))))) (by kernel_rfl) (fun _ _ => by kernel_rfl) (fun _ _ _ => by kernel_rfl) n
noncomputable def digest_wide_l0_se (K : Nat) : SE := stmtN [(0, .ptr), (1, .sl), (4, .addr)] [] [(1, 2), (5, 6), (7, 215)] (fun x w => digest_wide_l0 K K x.1 x.2.1 x.2.2.1 w)
theorem digest_wide_l0_se_ok (K : Nat) (R : Rg) (h : subRB [(1, 2), (5, 6), (7, 215)] R = true) : (digest_wide_l0_se K).Ok prog R (.block 0 (.loop (cd (bodyOf f81) [1, 0, 0]))) := stmtN_ok (Li := [(0, .ptr), (1, .sl), (4, .addr)]) (Lo := []) (S := (fun x w => digest_wide_l0 K K x.1 x.2.1 x.2.2.1 w)) (digest_wide_l0_ok K K) (subR_of h)
theorem digest_wide_facts : FunFacts prog 81 f81 (bodyOf f81) [(0, .ptr), (1, .sl)] [(0, 215)] := ⟨func81, by kernel_rfl, by kernel_rfl, by kernel_rfl, by kernel_rfl, by kernel_rfl⟩
theorem digest_wide_calls (K : Nat) (x : TT [(0, .ptr), (1, .sl)]) (w : World) (y : TR []) (w2 : World) (h : digest_wide K x.1 x.2.1 w = some (y, w2)) : Calls prog 81 (encA [(0, .ptr), (1, .sl)] x).toArray w (fun e w3 => e = .returned (resV (encR [] y)) ∧ w3 = w2) :=
    mk_fun (O := tabL [([1], digest_wide_l0_se K), ([1, 0, 0, 1, 0, 0, 0, 1], digest_wide_l1_se K), ([1, 0, 0, 1, 0, 0, 0, 1, 0, 0, 1, 1, 0, 0, 1, 1], digest_wide_l2_se K), ([1, 0, 0, 1, 0, 0, 1, 0, 1], digest_wide_l3_se K), ([1, 0, 0, 1, 0, 0, 1, 1, 1, 0, 1], digest_wide_l4_se K), ([1, 0, 0, 1, 0, 0, 1, 1, 1, 1, 1], digest_wide_l5_se K)]) (Lp := [(0, .ptr), (1, .sl)]) (Rt := []) (S := (fun x w => digest_wide K x.1 x.2.1 w)) (digest_wide_Eok K) (digest_wide_Rok K) rfl digest_wide_facts (Orc.cons (by kernel_rfl) (digest_wide_l0_se_ok K [(0, 215)] (by kernel_rfl)) (Orc.cons (by kernel_rfl) (digest_wide_l1_se_ok K [(0, 215)] (by kernel_rfl)) (Orc.cons (by kernel_rfl) (digest_wide_l2_se_ok K [(0, 215)] (by kernel_rfl)) (Orc.cons (by kernel_rfl) (digest_wide_l3_se_ok K [(0, 215)] (by kernel_rfl)) (Orc.cons (by kernel_rfl) (digest_wide_l4_se_ok K [(0, 215)] (by kernel_rfl)) (Orc.cons (by kernel_rfl) (digest_wide_l5_se_ok K [(0, 215)] (by kernel_rfl)) (Orc.nil _ _ _))))))) (fun _ _ => by kernel_rfl) x w y w2 h
noncomputable def digest_wide_ce (K : Nat) : CE := funE [(0, .ptr), (1, .sl)] [] (fun x w => digest_wide K x.1 x.2.1 w)
theorem digest_wide_ok (K : Nat) : (digest_wide_ce K).Ok prog 81 := funE_ok (Rt := []) (S := (fun x w => digest_wide K x.1 x.2.1 w)) digest_wide_facts fun x w y w2 h => digest_wide_calls K x w y w2 h

noncomputable def bits_RotateLeft32_R : List (Nat × RE) := []
theorem bits_RotateLeft32_Rok : REnv.Ok prog (tab (bits_RotateLeft32_R)) := (REnv.nil _)
/-- math/bits.RotateLeft32 -/
noncomputable def bits_RotateLeft32 (x0 : Int) (k1 : Int) : Option (Int × Unit) :=
  if (0 : Int) ≤ (bits .and .u64 (IntKind.u64.wrap k1) 31) then (if (0 : Int) ≤ (IntKind.u64.wrap (32 - (bits .and .u64 (IntKind.u64.wrap k1) 31))) then (some ((bits .or .u32 (IntKind.u32.wrap (x0 * 2 ^ (min (Int.toNat (bits .and .u64 (IntKind.u64.wrap k1) 31)) IntKind.u32.bits))) (Int.fdiv x0 (2 ^ (min (Int.toNat (IntKind.u64.wrap (32 - (bits .and .u64 (IntKind.u64.wrap k1) 31)))) IntKind.u32.bits)))), ())) else none) else none
theorem bits_RotateLeft32_facts : FunFacts prog 92 f92 (bodyOf f92) [(0, .int .u32), (1, .int .i64)] [(0, 17)] := ⟨func92, by kernel_rfl, by kernel_rfl, by kernel_rfl, by kernel_rfl, by kernel_rfl⟩
theorem bits_RotateLeft32_calls (x : TT [(0, .int .u32), (1, .int .i64)]) (w : World) (y : TR [.int .u32]) (h : bits_RotateLeft32 x.1 x.2.1 = some y) : Calls prog 92 (encA [(0, .int .u32), (1, .int .i64)] x).toArray w (fun e w3 => e = .returned (resV (encR [.int .u32] y)) ∧ w3 = w) :=
    mk_funQ (O := tabL []) (Lp := [(0, .int .u32), (1, .int .i64)]) (Rt := [.int .u32]) (S := (fun x w => bits_RotateLeft32 x.1 x.2.1)) (bits_RotateLeft32_Rok) bits_RotateLeft32_facts (OrcQ.nil _ _ _) (fun _ _ => by kernel_rfl) x w y h
noncomputable def bits_RotateLeft32_re : RE := funR [(0, .int .u32), (1, .int .i64)] [.int .u32] (fun x w => bits_RotateLeft32 x.1 x.2.1)
theorem bits_RotateLeft32_ok : (bits_RotateLeft32_re).Ok prog 92 := funR_ok (Rt := [.int .u32]) (S := (fun x w => bits_RotateLeft32 x.1 x.2.1)) bits_RotateLeft32_facts fun x w y h => bits_RotateLeft32_calls x w y h

noncomputable def digest_narrow_E (K : Nat) : List (Nat × CE) := []
theorem digest_narrow_Eok (K : Nat) : Env.Ok prog (tab (digest_narrow_E K)) := (Env.nil _)
noncomputable def digest_narrow_R (K : Nat) : List (Nat × RE) := [(92, bits_RotateLeft32_re)]
theorem digest_narrow_Rok (K : Nat) : REnv.Ok prog (tab (digest_narrow_R K)) := (REnv.cons (bits_RotateLeft32_ok) (REnv.nil _))
noncomputable def digest_narrow_l1_b (K : Nat) (rec : Option Addr → Sl → Addr → Int → World → Option ((Unit) × World)) (h0 : Option Addr) (b1 : Sl) (w4 : Addr) (a31 : Int) (w : World) : Option ((Unit) × World) :=
  if (decide (a31 < 16)) = true then (if (0 : Int) ≤ (IntKind.i64.wrap ((IntKind.i64.wrap (4 * a31)) + 4)) ∧ (IntKind.i64.wrap ((IntKind.i64.wrap (4 * a31)) + 4)) ≤ ((b1.cap : Nat) : Int) then (if (0 : Int) ≤ (IntKind.i64.wrap (4 * a31)) ∧ (IntKind.i64.wrap (4 * a31)) ≤ (((Int.toNat ((IntKind.i64.wrap ((IntKind.i64.wrap (4 * a31)) + 4)))) : Nat) : Int) then (((sla b1.a (Int.toNat ((IntKind.i64.wrap (4 * a31)))) b1.cap 1)).bind fun p_3 =>
  if (0 : Int) ≤ 0 ∧ 0 < ((((Int.toNat ((IntKind.i64.wrap ((IntKind.i64.wrap (4 * a31)) + 4)))) - (Int.toNat ((IntKind.i64.wrap (4 * a31))))) : Nat) : Int) then (((sla b1.a (Int.toNat ((IntKind.i64.wrap (4 * a31)))) b1.cap 1)).bind fun p_4 =>
  if (0 : Int) ≤ 1 ∧ 1 < ((((Int.toNat ((IntKind.i64.wrap ((IntKind.i64.wrap (4 * a31)) + 4)))) - (Int.toNat ((IntKind.i64.wrap (4 * a31))))) : Nat) : Int) then (((sla b1.a (Int.toNat ((IntKind.i64.wrap (4 * a31)))) b1.cap 1)).bind fun p_5 =>
  if (0 : Int) ≤ 2 ∧ 2 < ((((Int.toNat ((IntKind.i64.wrap ((IntKind.i64.wrap (4 * a31)) + 4)))) - (Int.toNat ((IntKind.i64.wrap (4 * a31))))) : Nat) : Int) then (((sla b1.a (Int.toNat ((IntKind.i64.wrap (4 * a31)))) b1.cap 1)).bind fun p_6 =>
  if (0 : Int) ≤ 3 ∧ 3 < ((((Int.toNat ((IntKind.i64.wrap ((IntKind.i64.wrap (4 * a31)) + 4)))) - (Int.toNat ((IntKind.i64.wrap (4 * a31))))) : Nat) : Int) then ((ldI .u8 (p_3.add (0 * 1)) w.drew).bind fun v_7 =>
  (ldI .u8 (p_4.add (1 * 1)) w.drew).bind fun v_8 =>
  (ldI .u8 (p_5.add (2 * 1)) w.drew).bind fun v_9 =>
  (ldI .u8 (p_6.add (3 * 1)) w.drew).bind fun v_10 =>
  if (0 : Int) ≤ a31 ∧ a31 < ((64 : Nat) : Int) then ((stC (w4.add ((Int.toNat a31) * 1)) (.int .u32 (bits .or .u32 (bits .or .u32 (bits .or .u32 (IntKind.u32.wrap ((IntKind.u32.wrap v_7) * 2 ^ 24)) (IntKind.u32.wrap ((IntKind.u32.wrap v_8) * 2 ^ 16))) (IntKind.u32.wrap ((IntKind.u32.wrap v_9) * 2 ^ 8))) (IntKind.u32.wrap v_10))) w.drew).bind fun w_11 =>
  rec h0 b1 w4 (IntKind.i64.wrap (a31 + 1)) w_11) else none) else none) else none) else none) else none) else none) else none) else (some ((), w))
noncomputable def digest_narrow_l1 (K : Nat) (n : Nat) : Option Addr → Sl → Addr → Int → World → Option ((Unit) × World) := iter (fun _ _ _ _ _ => none) (digest_narrow_l1_b K) n
noncomputable def digest_narrow_l2_b (K : Nat) (rec : Option Addr → Sl → Addr → Int → World → Option ((Unit) × World)) (h0 : Option Addr) (b1 : Sl) (w4 : Addr) (i7 : Int) (w : World) : Option ((Unit) × World) :=
  if (decide (i7 < 64)) = true then (if (0 : Int) ≤ (IntKind.i64.wrap (i7 - 15)) ∧ (IntKind.i64.wrap (i7 - 15)) < ((64 : Nat) : Int) then (if (0 : Int) ≤ (IntKind.i64.wrap (i7 - 2)) ∧ (IntKind.i64.wrap (i7 - 2)) < ((64 : Nat) : Int) then ((ldI .u32 (w4.add ((Int.toNat (IntKind.i64.wrap (i7 - 15))) * 1)) w.drew).bind fun v_14 =>
  (ldI .u32 (w4.add ((Int.toNat (IntKind.i64.wrap (i7 - 2))) * 1)) w.drew).bind fun v_15 =>
  if (0 : Int) ≤ (IntKind.i64.wrap (i7 - 16)) ∧ (IntKind.i64.wrap (i7 - 16)) < ((64 : Nat) : Int) then (if (0 : Int) ≤ (IntKind.i64.wrap (i7 - 7)) ∧ (IntKind.i64.wrap (i7 - 7)) < ((64 : Nat) : Int) then ((ldI .u32 (w4.add ((Int.toNat (IntKind.i64.wrap (i7 - 16))) * 1)) w.drew.drew).bind fun v_16 =>
  (ldI .u32 (w4.add ((Int.toNat (IntKind.i64.wrap (i7 - 7))) * 1)) w.drew.drew).bind fun v_17 =>
  (bits_RotateLeft32 v_14 (-7)).bind fun r_18 =>
  (bits_RotateLeft32 v_14 (-18)).bind fun r_19 =>
  (bits_RotateLeft32 v_15 (-17)).bind fun r_20 =>
  (bits_RotateLeft32 v_15 (-19)).bind fun r_21 =>
  if (0 : Int) ≤ i7 ∧ i7 < ((64 : Nat) : Int) then ((stC (w4.add ((Int.toNat i7) * 1)) (.int .u32 (IntKind.u32.wrap ((IntKind.u32.wrap ((IntKind.u32.wrap (v_16 + v_17)) + (bits .xor .u32 (bits .xor .u32 r_18.1 r_19.1) (Int.fdiv v_14 (2 ^ 3))))) + (bits .xor .u32 (bits .xor .u32 r_20.1 r_21.1) (Int.fdiv v_15 (2 ^ 10)))))) w.drew.drew).bind fun w_22 =>
  rec h0 b1 w4 (IntKind.i64.wrap (i7 + 1)) w_22) else none) else none) else none) else none) else none) else (some ((), w))
noncomputable def digest_narrow_l2 (K : Nat) (n : Nat) : Option Addr → Sl → Addr → Int → World → Option ((Unit) × World) := iter (fun _ _ _ _ _ => none) (digest_narrow_l2_b K) n
noncomputable def digest_narrow_l3_b (K : Nat) (rec : Option Addr → Sl → Addr → Addr → Int → World → Option ((Unit) × World)) (h0 : Option Addr) (b1 : Sl) (w4 : Addr) (v10 : Addr) (a107 : Int) (w : World) : Option ((Unit) × World) :=
  if (decide (a107 < 8)) = true then ((h0).bind fun p_27 =>
  if (0 : Int) ≤ a107 ∧ a107 < ((8 : Nat) : Int) then ((ldI .u64 (p_27.add ((Int.toNat a107) * 1)) w).bind fun v_28 =>
  if (0 : Int) ≤ a107 ∧ a107 < ((8 : Nat) : Int) then ((stC (v10.add ((Int.toNat a107) * 1)) (.int .u32 (IntKind.u32.wrap v_28)) w).bind fun w_29 =>
  rec h0 b1 w4 v10 (IntKind.i64.wrap (a107 + 1)) w_29) else none) else none) else (some ((), w))
noncomputable def digest_narrow_l3 (K : Nat) (n : Nat) : Option Addr → Sl → Addr → Addr → Int → World → Option ((Unit) × World) := iter (fun _ _ _ _ _ _ => none) (digest_narrow_l3_b K) n
noncomputable def digest_narrow_l4_b (K : Nat) (rec : Option Addr → Sl → Addr → Addr → Int → Int → Int → Int → Int → Int → Int → Int → Int → World → Option ((Int × Int × Int × Int × Int × Int × Int × Int × Unit) × World)) (h0 : Option Addr) (b1 : Sl) (w4 : Addr) (v10 : Addr) (a12 : Int) (b113 : Int) (c14 : Int) (d15 : Int) (e16 : Int) (f17 : Int) (g18 : Int) (k19 : Int) (a135 : Int) (w : World) : Option ((Int × Int × Int × Int × Int × Int × Int × Int × Unit) × World) :=
  if (decide (a135 < 64)) = true then (if (0 : Int) ≤ a135 ∧ a135 < ((80 : Nat) : Int) then ((ldI .u64 ((⟨2, 0, none⟩ : Addr).add ((Int.toNat a135) * 1)) w).bind fun v_40 =>
  if (0 : Int) ≤ a135 ∧ a135 < ((64 : Nat) : Int) then ((bits_RotateLeft32 e16 (-6)).bind fun r_41 =>
  (bits_RotateLeft32 e16 (-11)).bind fun r_42 =>
  (bits_RotateLeft32 e16 (-25)).bind fun r_43 =>
  (ldI .u32 (w4.add ((Int.toNat a135) * 1)) w.drew).bind fun v_44 =>
  (bits_RotateLeft32 a12 (-2)).bind fun r_45 =>
  (bits_RotateLeft32 a12 (-13)).bind fun r_46 =>
  (bits_RotateLeft32 a12 (-22)).bind fun r_47 =>
  rec h0 b1 w4 v10 (IntKind.u32.wrap ((IntKind.u32.wrap ((IntKind.u32.wrap ((IntKind.u32.wrap ((IntKind.u32.wrap (k19 + (bits .xor .u32 (bits .xor .u32 r_41.1 r_42.1) r_43.1))) + (bits .xor .u32 (bits .and .u32 e16 f17) (bits .and .u32 (bits .xor .u32 IntKind.u32.max e16) g18)))) + (IntKind.u32.wrap (Int.fdiv v_40 (2 ^ 32))))) + v_44)) + (IntKind.u32.wrap ((bits .xor .u32 (bits .xor .u32 r_45.1 r_46.1) r_47.1) + (bits .xor .u32 (bits .xor .u32 (bits .and .u32 a12 b113) (bits .and .u32 a12 c14)) (bits .and .u32 b113 c14)))))) a12 b113 c14 (IntKind.u32.wrap (d15 + (IntKind.u32.wrap ((IntKind.u32.wrap ((IntKind.u32.wrap ((IntKind.u32.wrap (k19 + (bits .xor .u32 (bits .xor .u32 r_41.1 r_42.1) r_43.1))) + (bits .xor .u32 (bits .and .u32 e16 f17) (bits .and .u32 (bits .xor .u32 IntKind.u32.max e16) g18)))) + (IntKind.u32.wrap (Int.fdiv v_40 (2 ^ 32))))) + v_44)))) e16 f17 g18 (IntKind.i64.wrap (a135 + 1)) w.drew) else none) else none) else (some ((a12, b113, c14, d15, e16, f17, g18, k19, ()), w))
noncomputable def digest_narrow_l4 (K : Nat) (n : Nat) : Option Addr → Sl → Addr → Addr → Int → Int → Int → Int → Int → Int → Int → Int → Int → World → Option ((Int × Int × Int × Int × Int × Int × Int × Int × Unit) × World) := iter (fun _ _ _ _ _ _ _ _ _ _ _ _ _ _ => none) (digest_narrow_l4_b K) n
noncomputable def digest_narrow_l5_b (K : Nat) (rec : Option Addr → Sl → Addr → Addr → Array Value → Int → World → Option ((Unit) × World)) (h0 : Option Addr) (b1 : Sl) (w4 : Addr) (v10 : Addr) (a209 : Array Value) (a210 : Int) (w : World) : Option ((Unit) × World) :=
  if (decide (a210 < 8)) = true then (if (0 : Int) ≤ a210 ∧ a210 < ((8 : Nat) : Int) then ((a209[((Int.toNat a210) * 1)]?).bind fun v_51 =>
  (asI .u32 v_51).bind fun v_52 =>
  if (0 : Int) ≤ a210 ∧ a210 < ((8 : Nat) : Int) then ((h0).bind fun p_53 =>
  (ldI .u32 (v10.add ((Int.toNat a210) * 1)) w.drew).bind fun v_54 =>
  if (0 : Int) ≤ a210 ∧ a210 < ((8 : Nat) : Int) then ((stC (p_53.add ((Int.toNat a210) * 1)) (.int .u64 (IntKind.u64.wrap (IntKind.u32.wrap (v_54 + v_52)))) w.drew).bind fun w_55 =>
  rec h0 b1 w4 v10 a209 (IntKind.i64.wrap (a210 + 1)) w_55) else none) else none) else none) else (some ((), w))
noncomputable def digest_narrow_l5 (K : Nat) (n : Nat) : Option Addr → Sl → Addr → Addr → Array Value → Int → World → Option ((Unit) × World) := iter (fun _ _ _ _ _ _ _ => none) (digest_narrow_l5_b K) n
noncomputable def digest_narrow_l0_b (K : Nat) (rec : Option Addr → Sl → Addr → World → Option ((Unit) × World)) (h0 : Option Addr) (b1 : Sl) (w4 : Addr) (w : World) : Option ((Unit) × World) :=
  if (decide (((b1.len : Nat) : Int) ≥ 64)) = true then (bnd (digest_narrow_l1 K K h0 b1 w4 0 w) fun y_12 w_13 =>
  bnd (digest_narrow_l2 K K h0 b1 w4 16 w_13) fun y_23 w_24 =>
  bnd (newB z126 126 w_24) fun v_25 w_26 =>
  bnd (digest_narrow_l3 K K h0 b1 w4 v_25 0 w_26) fun y_30 w_31 =>
  (ldI .u32 (v_25.add (0 * 1)) w_31.drew).bind fun v_32 =>
  (ldI .u32 (v_25.add (1 * 1)) w_31.drew).bind fun v_33 =>
  (ldI .u32 (v_25.add (2 * 1)) w_31.drew).bind fun v_34 =>
  (ldI .u32 (v_25.add (3 * 1)) w_31.drew).bind fun v_35 =>
  (ldI .u32 (v_25.add (4 * 1)) w_31.drew).bind fun v_36 =>
  (ldI .u32 (v_25.add (5 * 1)) w_31.drew).bind fun v_37 =>
  (ldI .u32 (v_25.add (6 * 1)) w_31.drew).bind fun v_38 =>
  (ldI .u32 (v_25.add (7 * 1)) w_31.drew).bind fun v_39 =>
  bnd (digest_narrow_l4 K K h0 b1 w4 v_25 v_32 v_33 v_34 v_35 v_36 v_37 v_38 v_39 0 w_31.drew) fun y_48 w_49 =>
  (prog.built 126 [(0, (.int .u32 y_48.1)), (1, (.int .u32 y_48.2.1)), (2, (.int .u32 y_48.2.2.1)), (3, (.int .u32 y_48.2.2.2.1)), (4, (.int .u32 y_48.2.2.2.2.1)), (5, (.int .u32 y_48.2.2.2.2.2.1)), (6, (.int .u32 y_48.2.2.2.2.2.2.1)), (7, (.int .u32 y_48.2.2.2.2.2.2.2.1))]).bind fun cs_50 =>
  bnd (digest_narrow_l5 K K h0 b1 w4 v_25 cs_50 0 w_49) fun y_56 w_57 =>
  if (0 : Int) ≤ 64 ∧ 64 ≤ ((b1.len : Nat) : Int) then (rec h0 ⟨(sla b1.a 64 b1.cap 1), (b1.len - 64), (b1.cap - 64)⟩ w4 w_57) else none) else (some ((), w))
noncomputable def digest_narrow_l0 (K : Nat) (n : Nat) : Option Addr → Sl → Addr → World → Option ((Unit) × World) := iter (fun _ _ _ _ => none) (digest_narrow_l0_b K) n
/-- coffer/digest.narrow -/
noncomputable def digest_narrow (K : Nat) (h0 : Option Addr) (b1 : Sl) (w : World) : Option ((Unit) × World) :=
  bnd (newB z124 124 w) fun w_1 w_2 =>
  bnd (digest_narrow_l0 K K h0 b1 w_1 w_2) fun y_58 w_59 =>
  some ((), w_59)
theorem digest_narrow_l1_ok (K : Nat) (n : Nat) : StmtNOk prog [(0, .ptr), (1, .sl), (4, .addr), (31, .int .i64)] [] [(5, 7), (31, 66)] ((fun n x w => digest_narrow_l1 K n x.1 x.2.1 x.2.2.1 x.2.2.2.1 w) n) (.block 2 (.loop (cd (bodyOf f80) [1, 0, 0, 1, 0, 0, 0, 1, 0, 0]))) :=
    mk_loopN (O := tabL []) (root := (bodyOf f80)) (π := [1, 0, 0, 1, 0, 0, 0, 1, 0, 0]) (id := 2) (Li := [(0, .ptr), (1, .sl), (4, .addr), (31, .int .i64)]) (Lo := []) (S := (fun n x w => digest_narrow_l1 K n x.1 x.2.1 x.2.2.1 x.2.2.2.1 w)) (body := cd (bodyOf f80) [1, 0, 0, 1, 0, 0, 0, 1, 0, 0]) (digest_narrow_Eok K) (digest_narrow_Rok K) rfl (Orc.nil _ _ _) (by kernel_rfl) (fun _ _ => by kernel_rfl) (fun _ _ _ => by kernel_rfl) n
noncomputable def digest_narrow_l1_se (K : Nat) : SE := stmtN [(0, .ptr), (1, .sl), (4, .addr), (31, .int .i64)] [] [(5, 7), (31, 66)] (fun x w => digest_narrow_l1 K K x.1 x.2.1 x.2.2.1 x.2.2.2.1 w)
theorem digest_narrow_l1_se_ok (K : Nat) (R : Rg) (h : subRB [(5, 7), (31, 66)] R = true) : (digest_narrow_l1_se K).Ok prog R (.block 2 (.loop (cd (bodyOf f80) [1, 0, 0, 1, 0, 0, 0, 1, 0, 0]))) := stmtN_ok (Li := [(0, .ptr), (1, .sl), (4, .addr), (31, .int .i64)]) (Lo := []) (S := (fun x w => digest_narrow_l1 K K x.1 x.2.1 x.2.2.1 x.2.2.2.1 w)) (digest_narrow_l1_ok K K) (subR_of h)
theorem digest_narrow_l2_ok (K : Nat) (n : Nat) : StmtNOk prog [(0, .ptr), (1, .sl), (4, .addr), (7, .int .i64)] [] [(7, 10), (66, 107)] ((fun n x w => digest_narrow_l2 K n x.1 x.2.1 x.2.2.1 x.2.2.2.1 w) n) (.block 4 (.loop (cd (bodyOf f80) [1, 0, 0, 1, 0, 0, 1, 0, 1, 0, 0]))) :=
    mk_loopN (O := tabL []) (root := (bodyOf f80)) (π := [1, 0, 0, 1, 0, 0, 1, 0, 1, 0, 0]) (id := 4) (Li := [(0, .ptr), (1, .sl), (4, .addr), (7, .int .i64)]) (Lo := []) (S := (fun n x w => digest_narrow_l2 K n x.1 x.2.1 x.2.2.1 x.2.2.2.1 w)) (body := cd (bodyOf f80) [1, 0, 0, 1, 0, 0, 1, 0, 1, 0, 0]) (digest_narrow_Eok K) (digest_narrow_Rok K) rfl (Orc.nil _ _ _) (by kernel_rfl) (fun _ _ => by kernel_rfl) (fun _ _ _ => by kernel_rfl) n
noncomputable def digest_narrow_l2_se (K : Nat) : SE := stmtN [(0, .ptr), (1, .sl), (4, .addr), (7, .int .i64)] [] [(7, 10), (66, 107)] (fun x w => digest_narrow_l2 K K x.1 x.2.1 x.2.2.1 x.2.2.2.1 w)
theorem digest_narrow_l2_se_ok (K : Nat) (R : Rg) (h : subRB [(7, 10), (66, 107)] R = true) : (digest_narrow_l2_se K).Ok prog R (.block 4 (.loop (cd (bodyOf f80) [1, 0, 0, 1, 0, 0, 1, 0, 1, 0, 0]))) := stmtN_ok (Li := [(0, .ptr), (1, .sl), (4, .addr), (7, .int .i64)]) (Lo := []) (S := (fun x w => digest_narrow_l2 K K x.1 x.2.1 x.2.2.1 x.2.2.2.1 w)) (digest_narrow_l2_ok K K) (subR_of h)
theorem digest_narrow_l3_ok (K : Nat) (n : Nat) : StmtNOk prog [(0, .ptr), (1, .sl), (4, .addr), (10, .addr), (107, .int .i64)] [] [(11, 12), (107, 119)] ((fun n x w => digest_narrow_l3 K n x.1 x.2.1 x.2.2.1 x.2.2.2.1 x.2.2.2.2.1 w) n) (.block 6 (.loop (cd (bodyOf f80) [1, 0, 0, 1, 0, 0, 1, 1, 1, 0, 1, 0, 0]))) :=
    mk_loopN (O := tabL []) (root := (bodyOf f80)) (π := [1, 0, 0, 1, 0, 0, 1, 1, 1, 0, 1, 0, 0]) (id := 6) (Li := [(0, .ptr), (1, .sl), (4, .addr), (10, .addr), (107, .int .i64)]) (Lo := []) (S := (fun n x w => digest_narrow_l3 K n x.1 x.2.1 x.2.2.1 x.2.2.2.1 x.2.2.2.2.1 w)) (body := cd (bodyOf f80) [1, 0, 0, 1, 0, 0, 1, 1, 1, 0, 1, 0, 0]) (digest_narrow_Eok K) (digest_narrow_Rok K) rfl (Orc.nil _ _ _) (by kernel_rfl) (fun _ _ => by kernel_rfl) (fun _ _ _ => by kernel_rfl) n
noncomputable def digest_narrow_l3_se (K : Nat) : SE := stmtN [(0, .ptr), (1, .sl), (4, .addr), (10, .addr), (107, .int .i64)] [] [(11, 12), (107, 119)] (fun x w => digest_narrow_l3 K K x.1 x.2.1 x.2.2.1 x.2.2.2.1 x.2.2.2.2.1 w)
theorem digest_narrow_l3_se_ok (K : Nat) (R : Rg) (h : subRB [(11, 12), (107, 119)] R = true) : (digest_narrow_l3_se K).Ok prog R (.block 6 (.loop (cd (bodyOf f80) [1, 0, 0, 1, 0, 0, 1, 1, 1, 0, 1, 0, 0]))) := stmtN_ok (Li := [(0, .ptr), (1, .sl), (4, .addr), (10, .addr), (107, .int .i64)]) (Lo := []) (S := (fun x w => digest_narrow_l3 K K x.1 x.2.1 x.2.2.1 x.2.2.2.1 x.2.2.2.2.1 w)) (digest_narrow_l3_ok K K) (subR_of h)
theorem digest_narrow_l4_ok (K : Nat) (n : Nat) : StmtNOk prog [(0, .ptr), (1, .sl), (4, .addr), (10, .addr), (12, .int .u32), (13, .int .u32), (14, .int .u32), (15, .int .u32), (16, .int .u32), (17, .int .u32), (18, .int .u32), (19, .int .u32), (135, .int .i64)] [(12, .int .u32), (13, .int .u32), (14, .int .u32), (15, .int .u32), (16, .int .u32), (17, .int .u32), (18, .int .u32), (19, .int .u32)] [(12, 24), (135, 201)] ((fun n x w => digest_narrow_l4 K n x.1 x.2.1 x.2.2.1 x.2.2.2.1 x.2.2.2.2.1 x.2.2.2.2.2.1 x.2.2.2.2.2.2.1 x.2.2.2.2.2.2.2.1 x.2.2.2.2.2.2.2.2.1 x.2.2.2.2.2.2.2.2.2.1 x.2.2.2.2.2.2.2.2.2.2.1 x.2.2.2.2.2.2.2.2.2.2.2.1 x.2.2.2.2.2.2.2.2.2.2.2.2.1 w) n) (.block 8 (.loop (cd (bodyOf f80) [1, 0, 0, 1, 0, 0, 1, 1, 1, 1, 1, 0, 1, 0, 0]))) :=
    mk_loopN (O := tabL []) (root := (bodyOf f80)) (π := [1, 0, 0, 1, 0, 0, 1, 1, 1, 1, 1, 0, 1, 0, 0]) (id := 8) (Li := [(0, .ptr), (1, .sl), (4, .addr), (10, .addr), (12, .int .u32), (13, .int .u32), (14, .int .u32), (15, .int .u32), (16, .int .u32), (17, .int .u32), (18, .int .u32), (19, .int .u32), (135, .int .i64)]) (Lo := [(12, .int .u32), (13, .int .u32), (14, .int .u32), (15, .int .u32), (16, .int .u32), (17, .int .u32), (18, .int .u32), (19, .int .u32)]) (S := (fun n x w => digest_narrow_l4 K n x.1 x.2.1 x.2.2.1 x.2.2.2.1 x.2.2.2.2.1 x.2.2.2.2.2.1 x.2.2.2.2.2.2.1 x.2.2.2.2.2.2.2.1 x.2.2.2.2.2.2.2.2.1 x.2.2.2.2.2.2.2.2.2.1 x.2.2.2.2.2.2.2.2.2.2.1 x.2.2.2.2.2.2.2.2.2.2.2.1 x.2.2.2.2.2.2.2.2.2.2.2.2.1 w)) (body := cd (bodyOf f80) [1, 0, 0, 1, 0, 0, 1, 1, 1, 1, 1, 0, 1, 0, 0]) (digest_narrow_Eok K) (digest_narrow_Rok K) rfl (Orc.nil _ _ _) (by kernel_rfl) (fun _ _ => by kernel_rfl) (fun _ _ _ => by kernel_rfl) n
noncomputable def digest_narrow_l4_se (K : Nat) : SE := stmtN [(0, .ptr), (1, .sl), (4, .addr), (10, .addr), (12, .int .u32), (13, .int .u32), (14, .int .u32), (15, .int .u32), (16, .int .u32), (17, .int .u32), (18, .int .u32), (19, .int .u32), (135, .int .i64)] [(12, .int .u32), (13, .int .u32), (14, .int .u32), (15, .int .u32), (16, .int .u32), (17, .int .u32), (18, .int .u32), (19, .int .u32)] [(12, 24), (135, 201)] (fun x w => digest_narrow_l4 K K x.1 x.2.1 x.2.2.1 x.2.2.2.1 x.2.2.2.2.1 x.2.2.2.2.2.1 x.2.2.2.2.2.2.1 x.2.2.2.2.2.2.2.1 x.2.2.2.2.2.2.2.2.1 x.2.2.2.2.2.2.2.2.2.1 x.2.2.2.2.2.2.2.2.2.2.1 x.2.2.2.2.2.2.2.2.2.2.2.1 x.2.2.2.2.2.2.2.2.2.2.2.2.1 w)
theorem digest_narrow_l4_se_ok (K : Nat) (R : Rg) (h : subRB [(12, 24), (135, 201)] R = true) : (digest_narrow_l4_se K).Ok prog R (.block 8 (.loop (cd (bodyOf f80) [1, 0, 0, 1, 0, 0, 1, 1, 1, 1, 1, 0, 1, 0, 0]))) := stmtN_ok (Li := [(0, .ptr), (1, .sl), (4, .addr), (10, .addr), (12, .int .u32), (13, .int .u32), (14, .int .u32), (15, .int .u32), (16, .int .u32), (17, .int .u32), (18, .int .u32), (19, .int .u32), (135, .int .i64)]) (Lo := [(12, .int .u32), (13, .int .u32), (14, .int .u32), (15, .int .u32), (16, .int .u32), (17, .int .u32), (18, .int .u32), (19, .int .u32)]) (S := (fun x w => digest_narrow_l4 K K x.1 x.2.1 x.2.2.1 x.2.2.2.1 x.2.2.2.2.1 x.2.2.2.2.2.1 x.2.2.2.2.2.2.1 x.2.2.2.2.2.2.2.1 x.2.2.2.2.2.2.2.2.1 x.2.2.2.2.2.2.2.2.2.1 x.2.2.2.2.2.2.2.2.2.2.1 x.2.2.2.2.2.2.2.2.2.2.2.1 x.2.2.2.2.2.2.2.2.2.2.2.2.1 w)) (digest_narrow_l4_ok K K) (subR_of h)
theorem digest_narrow_l5_ok (K : Nat) (n : Nat) : StmtNOk prog [(0, .ptr), (1, .sl), (4, .addr), (10, .addr), (209, .agg), (210, .int .i64)] [] [(24, 26), (210, 225)] ((fun n x w => digest_narrow_l5 K n x.1 x.2.1 x.2.2.1 x.2.2.2.1 x.2.2.2.2.1 x.2.2.2.2.2.1 w) n) (.block 10 (.loop (cd (bodyOf f80) [1, 0, 0, 1, 0, 0, 1, 1, 1, 1, 1, 1, 1, 0, 0]))) :=
    mk_loopN (O := tabL []) (root := (bodyOf f80)) (π := [1, 0, 0, 1, 0, 0, 1, 1, 1, 1, 1, 1, 1, 0, 0]) (id := 10) (Li := [(0, .ptr), (1, .sl), (4, .addr), (10, .addr), (209, .agg), (210, .int .i64)]) (Lo := []) (S := (fun n x w => digest_narrow_l5 K n x.1 x.2.1 x.2.2.1 x.2.2.2.1 x.2.2.2.2.1 x.2.2.2.2.2.1 w)) (body := cd (bodyOf f80) [1, 0, 0, 1, 0, 0, 1, 1, 1, 1, 1, 1, 1, 0, 0]) (digest_narrow_Eok K) (digest_narrow_Rok K) rfl (Orc.nil _ _ _) (by kernel_rfl) (fun _ _ => by kernel_rfl) (fun _ _ _ => by kernel_rfl) n
noncomputable def digest_narrow_l5_se (K : Nat) : SE := stmtN [(0, .ptr), (1, .sl), (4, .addr), (10, .addr), (209, .agg), (210, .int .i64)] [] [(24, 26), (210, 225)] (fun x w => digest_narrow_l5 K K x.1 x.2.1 x.2.2.1 x.2.2.2.1 x.2.2.2.2.1 x.2.2.2.2.2.1 w)
theorem digest_narrow_l5_se_ok (K : Nat) (R : Rg) (h : subRB [(24, 26), (210, 225)] R = true) : (digest_narrow_l5_se K).Ok prog R (.block 10 (.loop (cd (bodyOf f80) [1, 0, 0, 1, 0, 0, 1, 1, 1, 1, 1, 1, 1, 0, 0]))) := stmtN_ok (Li := [(0, .ptr), (1, .sl), (4, .addr), (10, .addr), (209, .agg), (210, .int .i64)]) (Lo := []) (S := (fun x w => digest_narrow_l5 K K x.1 x.2.1 x.2.2.1 x.2.2.2.1 x.2.2.2.2.1 x.2.2.2.2.2.1 w)) (digest_narrow_l5_ok K K) (subR_of h)
theorem digest_narrow_l0_ok (K : Nat) (n : Nat) : StmtNOk prog [(0, .ptr), (1, .sl), (4, .addr)] [] [(1, 2), (5, 225)] ((fun n x w => digest_narrow_l0 K n x.1 x.2.1 x.2.2.1 w) n) (.block 0 (.loop (cd (bodyOf f80) [1, 0, 0]))) :=
    mk_loopN (O := tabL [([1, 0, 0, 1, 0, 0, 0, 1], digest_narrow_l1_se K), ([1, 0, 0, 1, 0, 0, 1, 0, 1], digest_narrow_l2_se K), ([1, 0, 0, 1, 0, 0, 1, 1, 1, 0, 1], digest_narrow_l3_se K), ([1, 0, 0, 1, 0, 0, 1, 1, 1, 1, 1, 0, 1], digest_narrow_l4_se K), ([1, 0, 0, 1, 0, 0, 1, 1, 1, 1, 1, 1, 1], digest_narrow_l5_se K)]) (root := (bodyOf f80)) (π := [1, 0, 0]) (id := 0) (Li := [(0, .ptr), (1, .sl), (4, .addr)]) (Lo := []) (S := (fun n x w => digest_narrow_l0 K n x.1 x.2.1 x.2.2.1 w)) (body := cd (bodyOf f80) [1, 0, 0]) (digest_narrow_Eok K) (digest_narrow_Rok K) rfl (Orc.cons (by kernel_rfl) (digest_narrow_l1_se_ok K [(1, 2), (5, 225)] (by kernel_rfl)) (Orc.cons (by kernel_rfl) (digest_narrow_l2_se_ok K [(1, 2), (5, 225)] (by kernel_rfl)) (Orc.cons (by kernel_rfl) (digest_narrow_l3_se_ok K [(1, 2), (5, 225)] (by kernel_rfl)) (Orc.cons (by kernel_rfl) (digest_narrow_l4_se_ok K [(1, 2), (5, 225)] (by kernel_rfl)) (Orc.cons (by kernel_rfl) (digest_narrow_l5_se_ok K [(1, 2), (5, 225)] (by kernel_rfl)) (Orc.nil _ _ _)))))) (by kernel_rfl) (fun _ _ => by kernel_rfl) (fun _ _ _ => by kernel_rfl) n
noncomputable def digest_narrow_l0_se (K : Nat) : SE := stmtN [(0, .ptr), (1, .sl), (4, .addr)] [] [(1, 2), (5, 225)] (fun x w => digest_narrow_l0 K K x.1 x.2.1 x.2.2.1 w)
theorem digest_narrow_l0_se_ok (K : Nat) (R : Rg) (h : subRB [(1, 2), (5, 225)] R = true) : (digest_narrow_l0_se K).Ok prog R (.block 0 (.loop (cd (bodyOf f80) [1, 0, 0]))) := stmtN_ok (Li := [(0, .ptr), (1, .sl), (4, .addr)]) (Lo := []) (S := (fun x w => digest_narrow_l0 K K x.1 x.2.1 x.2.2.1 w)) (digest_narrow_l0_ok K K) (subR_of h)
theorem digest_narrow_facts : FunFacts prog 80 f80 (bodyOf f80) [(0, .ptr), (1, .sl)] [(0, 225)] := ⟨func80, by kernel_rfl, by kernel_rfl, by kernel_rfl, by kernel_rfl, by kernel_rfl⟩
theorem digest_narrow_calls (K : Nat) (x : TT [(0, .ptr), (1, .sl)]) (w : World) (y : TR []) (w2 : World) (h : digest_narrow K x.1 x.2.1 w = some (y, w2)) : Calls prog 80 (encA [(0, .ptr), (1, .sl)] x).toArray w (fun e w3 => e = .returned (resV (encR [] y)) ∧ w3 = w2) :=
    mk_fun (O := tabL [([1], digest_narrow_l0_se K), ([1, 0, 0, 1, 0, 0, 0, 1], digest_narrow_l1_se K), ([1, 0, 0, 1, 0, 0, 1, 0, 1], digest_narrow_l2_se K), ([1, 0, 0, 1, 0, 0, 1, 1, 1, 0, 1], digest_narrow_l3_se K), ([1, 0, 0, 1, 0, 0, 1, 1, 1, 1, 1, 0, 1], digest_narrow_l4_se K), ([1, 0, 0, 1, 0, 0, 1, 1, 1, 1, 1, 1, 1], digest_narrow_l5_se K)]) (Lp := [(0, .ptr), (1, .sl)]) (Rt := []) (S := (fun x w => digest_narrow K x.1 x.2.1 w)) (digest_narrow_Eok K) (digest_narrow_Rok K) rfl digest_narrow_facts (Orc.cons (by kernel_rfl) (digest_narrow_l0_se_ok K [(0, 225)] (by kernel_rfl)) (Orc.cons (by kernel_rfl) (digest_narrow_l1_se_ok K [(0, 225)] (by kernel_rfl)) (Orc.cons (by kernel_rfl) (digest_narrow_l2_se_ok K [(0, 225)] (by kernel_rfl)) (Orc.cons (by kernel_rfl) (digest_narrow_l3_se_ok K [(0, 225)] (by kernel_rfl)) (Orc.cons (by kernel_rfl) (digest_narrow_l4_se_ok K [(0, 225)] (by kernel_rfl)) (Orc.cons (by kernel_rfl) (digest_narrow_l5_se_ok K [(0, 225)] (by kernel_rfl)) (Orc.nil _ _ _))))))) (fun _ _ => by kernel_rfl) x w y w2 h
noncomputable def digest_narrow_ce (K : Nat) : CE := funE [(0, .ptr), (1, .sl)] [] (fun x w => digest_narrow K x.1 x.2.1 w)
theorem digest_narrow_ok (K : Nat) : (digest_narrow_ce K).Ok prog 80 := funE_ok (Rt := []) (S := (fun x w => digest_narrow K x.1 x.2.1 w)) digest_narrow_facts fun x w y w2 h => digest_narrow_calls K x w y w2 h

noncomputable def digest_state_take_E (K : Nat) : List (Nat × CE) := [(80, digest_narrow_ce K), (81, digest_wide_ce K)]
theorem digest_state_take_Eok (K : Nat) : Env.Ok prog (tab (digest_state_take_E K)) := (Env.cons (digest_narrow_ok K) (Env.cons (digest_wide_ok K) (Env.nil _)))
noncomputable def digest_state_take_R (K : Nat) : List (Nat × RE) := []
theorem digest_state_take_Rok (K : Nat) : REnv.Ok prog (tab (digest_state_take_R K)) := (REnv.nil _)
noncomputable def digest_state_take_s0 (K : Nat) (s0 : Option Addr) (b1 : Sl) (at4 : Int) (a30 : Bool) (w : World) : Option ((Out (Sl × Unit) (Unit)) × World) :=
  if a30 = true then ((s0).bind fun p_9 =>
  (s0).bind fun p_10 =>
  (ldI .i64 ((p_10.add 0).add 1) w.drew).bind fun v_11 =>
  if (0 : Int) ≤ v_11 ∧ v_11 ≤ ((128 : Nat) : Int) then (if (0 : Int) ≤ at4 ∧ at4 ≤ (((Int.toNat (v_11)) : Nat) : Int) then (bnd (cpy prog 25 25 (.slice (sla (some (p_9.add 14)) (Int.toNat (at4)) 128 1) ((Int.toNat (v_11)) - (Int.toNat (at4))) (128 - (Int.toNat (at4)))) (.slice b1.a b1.len b1.cap) w.drew) fun s_12 w_13 =>
  if (0 : Int) ≤ s_12 ∧ s_12 ≤ ((b1.len : Nat) : Int) then ((s0).bind fun p_14 =>
  (ldI .i64 ((p_14.add 0).add 1) w_13).bind fun v_15 =>
  if (decide ((IntKind.i64.wrap (at4 + s_12)) < v_15)) = true then (some (.ret (), w_13)) else ((s0).bind fun p_16 =>
  (s0).bind fun p_17 =>
  (s0).bind fun p_18 =>
  (s0).bind fun p_19 =>
  (ldV ((p_16.add 0).add 3) w_13.drew).bind fun v_20 =>
  (ldI .i64 ((p_19.add 0).add 1) w_13.drew).bind fun v_21 =>
  if (0 : Int) ≤ v_21 ∧ v_21 ≤ ((128 : Nat) : Int) then (dyn (tab (digest_state_take_E K)) v_20 [(.pointer (some (p_17.add 6))), (.slice (sla (some (p_18.add 14)) 0 128 1) ((Int.toNat (v_21)) - 0) (128 - 0))] w_13.drew fun v_22 w_23 =>
  some (.norm (⟨(sla b1.a (Int.toNat (s_12)) b1.cap 1), (b1.len - (Int.toNat (s_12))), (b1.cap - (Int.toNat (s_12)))⟩, ()), w_23)) else none)) else none) else none) else none) else (some (.norm (b1, ()), w))
/-- (*coffer/digest.state).take -/
noncomputable def digest_state_take (K : Nat) (s0 : Option Addr) (b1 : Sl) (w : World) : Option ((Unit) × World) :=
  (s0).bind fun p_1 =>
  (s0).bind fun p_2 =>
  (ldI .u64 (p_1.add 5) w.drew).bind fun v_3 =>
  (ldI .i64 ((p_2.add 0).add 1) w.drew).bind fun v_4 =>
  if (IntKind.u64.wrap v_4) ≠ 0 then ((s0).bind fun p_5 =>
  (ldI .u64 (p_5.add 5) w.drew).bind fun v_6 =>
  (s0).bind fun p_7 =>
  (stC (p_7.add 5) (.int .u64 (IntKind.u64.wrap (v_6 + (IntKind.u64.wrap ((b1.len : Nat) : Int))))) w.drew).bind fun w_8 =>
  bnd (digest_state_take_s0 K s0 b1 (IntKind.i64.wrap (Int.tmod v_3 (IntKind.u64.wrap v_4))) (decide ((IntKind.i64.wrap (Int.tmod v_3 (IntKind.u64.wrap v_4))) > 0)) w_8) fun y_24 w_25 =>
  (match y_24 with
  | .norm z_26n => ((s0).bind fun p_27 =>
  (s0).bind fun p_28 =>
  (ldI .i64 ((p_27.add 0).add 1) w_25.drew).bind fun v_29 =>
  if v_29 ≠ 0 then ((ldI .i64 ((p_28.add 0).add 1) w_25.drew).bind fun v_30 =>
  (s0).bind fun p_31 =>
  (s0).bind fun p_32 =>
  if (0 : Int) ≤ (IntKind.i64.wrap ((IntKind.i64.wrap (Int.tdiv ((z_26n.1.len : Nat) : Int) v_29)) * v_30)) ∧ (IntKind.i64.wrap ((IntKind.i64.wrap (Int.tdiv ((z_26n.1.len : Nat) : Int) v_29)) * v_30)) ≤ ((z_26n.1.cap : Nat) : Int) then ((ldV ((p_31.add 0).add 3) w_25.drew.drew).bind fun v_33 =>
  dyn (tab (digest_state_take_E K)) v_33 [(.pointer (some (p_32.add 6))), (.slice (sla z_26n.1.a 0 z_26n.1.cap 1) ((Int.toNat ((IntKind.i64.wrap ((IntKind.i64.wrap (Int.tdiv ((z_26n.1.len : Nat) : Int) v_29)) * v_30)))) - 0) (z_26n.1.cap - 0))] w_25.drew.drew fun v_34 w_35 =>
  (s0).bind fun p_36 =>
  if (0 : Int) ≤ (IntKind.i64.wrap ((IntKind.i64.wrap (Int.tdiv ((z_26n.1.len : Nat) : Int) v_29)) * v_30)) ∧ (IntKind.i64.wrap ((IntKind.i64.wrap (Int.tdiv ((z_26n.1.len : Nat) : Int) v_29)) * v_30)) ≤ ((z_26n.1.len : Nat) : Int) then (bnd (cpy prog 25 25 (.slice (sla (some (p_36.add 14)) 0 128 1) (128 - 0) (128 - 0)) (.slice (sla z_26n.1.a (Int.toNat ((IntKind.i64.wrap ((IntKind.i64.wrap (Int.tdiv ((z_26n.1.len : Nat) : Int) v_29)) * v_30)))) z_26n.1.cap 1) (z_26n.1.len - (Int.toNat ((IntKind.i64.wrap ((IntKind.i64.wrap (Int.tdiv ((z_26n.1.len : Nat) : Int) v_29)) * v_30))))) (z_26n.1.cap - (Int.toNat ((IntKind.i64.wrap ((IntKind.i64.wrap (Int.tdiv ((z_26n.1.len : Nat) : Int) v_29)) * v_30)))))) w_35.drew) fun s_37 w_38 =>
  some ((), w_38)) else none) else none) else none)
  | .ret z_26r => (some ((), w_25)))) else none
theorem digest_state_take_s0_ok (K : Nat) : StmtOk prog [(0, .ptr), (1, .sl), (4, .int .i64), (30, .bool)] [(1, .sl)] [] [(1, 2), (5, 6), (31, 73)] (fun x w => digest_state_take_s0 K x.1 x.2.1 x.2.2.1 x.2.2.2.1 w) (cd (bodyOf f74) [1, 1, 0, 1]) :=
    mk_stmt (O := tabL []) (root := (bodyOf f74)) (π := [1, 1, 0, 1]) (Li := [(0, .ptr), (1, .sl), (4, .int .i64), (30, .bool)]) (Lo := [(1, .sl)]) (Lr := []) (S := (fun x w => digest_state_take_s0 K x.1 x.2.1 x.2.2.1 x.2.2.2.1 w)) (digest_state_take_Eok K) (digest_state_take_Rok K) rfl (Orc.nil _ _ _) (by kernel_rfl) (fun _ _ => by kernel_rfl)
noncomputable def digest_state_take_s0_se (K : Nat) : SE := stmt [(0, .ptr), (1, .sl), (4, .int .i64), (30, .bool)] [(1, .sl)] [] [(1, 2), (5, 6), (31, 73)] (fun x w => digest_state_take_s0 K x.1 x.2.1 x.2.2.1 x.2.2.2.1 w)
theorem digest_state_take_s0_se_ok (K : Nat) (R : Rg) (h : subRB [(1, 2), (5, 6), (31, 73)] R = true) : (digest_state_take_s0_se K).Ok prog R (cd (bodyOf f74) [1, 1, 0, 1]) := stmt_ok (Li := [(0, .ptr), (1, .sl), (4, .int .i64), (30, .bool)]) (Lo := [(1, .sl)]) (Lr := []) (S := (fun x w => digest_state_take_s0 K x.1 x.2.1 x.2.2.1 x.2.2.2.1 w)) (digest_state_take_s0_ok K) (subR_of h)
theorem digest_state_take_facts : FunFacts prog 74 f74 (bodyOf f74) [(0, .ptr), (1, .sl)] [(0, 107)] := ⟨func74, by kernel_rfl, by kernel_rfl, by kernel_rfl, by kernel_rfl, by kernel_rfl⟩
theorem digest_state_take_calls (K : Nat) (x : TT [(0, .ptr), (1, .sl)]) (w : World) (y : TR []) (w2 : World) (h : digest_state_take K x.1 x.2.1 w = some (y, w2)) : Calls prog 74 (encA [(0, .ptr), (1, .sl)] x).toArray w (fun e w3 => e = .returned (resV (encR [] y)) ∧ w3 = w2) :=
    mk_fun (O := tabL [([1, 1, 0, 1], digest_state_take_s0_se K)]) (Lp := [(0, .ptr), (1, .sl)]) (Rt := []) (S := (fun x w => digest_state_take K x.1 x.2.1 w)) (digest_state_take_Eok K) (digest_state_take_Rok K) rfl digest_state_take_facts (Orc.cons (by kernel_rfl) (digest_state_take_s0_se_ok K [(0, 107)] (by kernel_rfl)) (Orc.nil _ _ _)) (fun _ _ => by kernel_rfl) x w y w2 h
noncomputable def digest_state_take_ce (K : Nat) : CE := funE [(0, .ptr), (1, .sl)] [] (fun x w => digest_state_take K x.1 x.2.1 w)
theorem digest_state_take_ok (K : Nat) : (digest_state_take_ce K).Ok prog 74 := funE_ok (Rt := []) (S := (fun x w => digest_state_take K x.1 x.2.1 w)) digest_state_take_facts fun x w y w2 h => digest_state_take_calls K x w y w2 h

noncomputable def digest_Stream_Write_E (K : Nat) : List (Nat × CE) := [(74, digest_state_take_ce K)]
theorem digest_Stream_Write_Eok (K : Nat) : Env.Ok prog (tab (digest_Stream_Write_E K)) := (Env.cons (digest_state_take_ok K) (Env.nil _))
noncomputable def digest_Stream_Write_R (K : Nat) : List (Nat × RE) := [(73, digest_total_re K)]
theorem digest_Stream_Write_Rok (K : Nat) : REnv.Ok prog (tab (digest_Stream_Write_R K)) := (REnv.cons (digest_total_ok K) (REnv.nil _))
noncomputable def digest_Stream_Write_l0_b (K : Nat) (rec : Option Addr → Sl → Int → Int → World → Option ((Unit) × World)) (s0 : Option Addr) (a19 : Sl) (a20 : Int) (a21 : Int) (w : World) : Option ((Unit) × World) :=
  if (decide (a21 < a20)) = true then ((a19.a).bind fun p_4 =>
  if (0 : Int) ≤ a21 ∧ a21 < ((a19.len : Nat) : Int) then ((ldS (p_4.add ((Int.toNat a21) * 1)) w).bind fun v_5 =>
  (s0).bind fun p_6 =>
  bnd (digest_state_take K (some (p_6.add 0)) v_5 w) fun r_7 w_8 =>
  rec s0 a19 a20 (IntKind.i64.wrap (a21 + 1)) w_8) else none) else (some ((), w))
noncomputable def digest_Stream_Write_l0 (K : Nat) (n : Nat) : Option Addr → Sl → Int → Int → World → Option ((Unit) × World) := iter (fun _ _ _ _ _ => none) (digest_Stream_Write_l0_b K) n
/-- (*coffer/digest.Stream).Write -/
noncomputable def digest_Stream_Write (K : Nat) (s0 : Option Addr) (parts1 : Sl) (w : World) : Option ((Int × Unit) × World) :=
  if s0.isNone = true then (some ((1, ()), w)) else ((s0).bind fun p_1 =>
  (ldI .u64 ((p_1.add 0).add 5) w.drew).bind fun v_2 =>
  (digest_total K parts1 w.drew).bind fun r_3 =>
  if (decide ((IntKind.u64.wrap (v_2 + (IntKind.u64.wrap r_3.1))) > 33554432)) = true then (some ((4, ()), w.drew)) else (bnd (digest_Stream_Write_l0 K K s0 parts1 ((parts1.len : Nat) : Int) 0 w.drew) fun y_9 w_10 =>
  some ((0, ()), w_10)))
theorem digest_Stream_Write_l0_ok (K : Nat) (n : Nat) : StmtNOk prog [(0, .ptr), (19, .sl), (20, .int .i64), (21, .int .i64)] [] [(6, 7), (21, 31)] ((fun n x w => digest_Stream_Write_l0 K n x.1 x.2.1 x.2.2.1 x.2.2.2.1 w) n) (.block 0 (.loop (cd (bodyOf f42) [1, 1, 1, 0, 1, 0, 0]))) :=
    mk_loopN (O := tabL []) (root := (bodyOf f42)) (π := [1, 1, 1, 0, 1, 0, 0]) (id := 0) (Li := [(0, .ptr), (19, .sl), (20, .int .i64), (21, .int .i64)]) (Lo := []) (S := (fun n x w => digest_Stream_Write_l0 K n x.1 x.2.1 x.2.2.1 x.2.2.2.1 w)) (body := cd (bodyOf f42) [1, 1, 1, 0, 1, 0, 0]) (digest_Stream_Write_Eok K) (digest_Stream_Write_Rok K) rfl (Orc.nil _ _ _) (by kernel_rfl) (fun _ _ => by kernel_rfl) (fun _ _ _ => by kernel_rfl) n
noncomputable def digest_Stream_Write_l0_se (K : Nat) : SE := stmtN [(0, .ptr), (19, .sl), (20, .int .i64), (21, .int .i64)] [] [(6, 7), (21, 31)] (fun x w => digest_Stream_Write_l0 K K x.1 x.2.1 x.2.2.1 x.2.2.2.1 w)
theorem digest_Stream_Write_l0_se_ok (K : Nat) (R : Rg) (h : subRB [(6, 7), (21, 31)] R = true) : (digest_Stream_Write_l0_se K).Ok prog R (.block 0 (.loop (cd (bodyOf f42) [1, 1, 1, 0, 1, 0, 0]))) := stmtN_ok (Li := [(0, .ptr), (19, .sl), (20, .int .i64), (21, .int .i64)]) (Lo := []) (S := (fun x w => digest_Stream_Write_l0 K K x.1 x.2.1 x.2.2.1 x.2.2.2.1 w)) (digest_Stream_Write_l0_ok K K) (subR_of h)
theorem digest_Stream_Write_facts : FunFacts prog 42 f42 (bodyOf f42) [(0, .ptr), (1, .sl)] [(0, 31)] := ⟨func42, by kernel_rfl, by kernel_rfl, by kernel_rfl, by kernel_rfl, by kernel_rfl⟩
theorem digest_Stream_Write_calls (K : Nat) (x : TT [(0, .ptr), (1, .sl)]) (w : World) (y : TR [.int .i64]) (w2 : World) (h : digest_Stream_Write K x.1 x.2.1 w = some (y, w2)) : Calls prog 42 (encA [(0, .ptr), (1, .sl)] x).toArray w (fun e w3 => e = .returned (resV (encR [.int .i64] y)) ∧ w3 = w2) :=
    mk_fun (O := tabL [([1, 1, 1, 0, 1], digest_Stream_Write_l0_se K)]) (Lp := [(0, .ptr), (1, .sl)]) (Rt := [.int .i64]) (S := (fun x w => digest_Stream_Write K x.1 x.2.1 w)) (digest_Stream_Write_Eok K) (digest_Stream_Write_Rok K) rfl digest_Stream_Write_facts (Orc.cons (by kernel_rfl) (digest_Stream_Write_l0_se_ok K [(0, 31)] (by kernel_rfl)) (Orc.nil _ _ _)) (fun _ _ => by kernel_rfl) x w y w2 h
noncomputable def digest_Stream_Write_ce (K : Nat) : CE := funE [(0, .ptr), (1, .sl)] [.int .i64] (fun x w => digest_Stream_Write K x.1 x.2.1 w)
theorem digest_Stream_Write_ok (K : Nat) : (digest_Stream_Write_ce K).Ok prog 42 := funE_ok (Rt := [.int .i64]) (S := (fun x w => digest_Stream_Write K x.1 x.2.1 w)) digest_Stream_Write_facts fun x w y w2 h => digest_Stream_Write_calls K x w y w2 h

end Go.Sh
