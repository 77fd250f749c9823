/- Texts of this claim, put together: Sh4, Sh5 -/
import Derived.Test.YteomkfcfhlljkaaDoorAllShhklgmk
/- What functions of the program do, as Lean functions; that the machine does just that. Printed by shal.py, a program of this claim's writer. -/
set_option maxRecDepth 100000
set_option linter.unusedVariables false
namespace Go.Sh
open Go.Fw Go.Proofs.Tryd

noncomputable def digest_wide_E (K : Nat) : List (Nat × CE) := []
theorem digest_wide_Eok (K : Nat) : Env.Ok prog (tab (digest_wide_E K)) := (Env.nil _)
noncomputable def digest_wide_R (K : Nat) : List (Nat × RE) := [(133, bits_RotateLeft64_re)]
theorem digest_wide_Rok (K : Nat) : REnv.Ok prog (tab (digest_wide_R K)) := (REnv.cons (bits_RotateLeft64_ok) (REnv.nil _))
noncomputable def digest_wide_l2_b (K : Nat) (rec : Option Addr → Sl → Addr → Int → Int → Sl → Int → Int → World → Option ((Unit) × World)) (h0 : Option Addr) (b1 : Sl) (w4 : Addr) (i5 : Int) (a30 : Int) (a39 : Sl) (a40 : Int) (a41 : Int) (w : World) : Option ((Unit) × World) :=
  if (decide (a41 < a40)) = true then ((a39.a).bind fun p_3 =>
  if (0 : Int) ≤ a41 ∧ a41 < ((a39.len : Nat) : Int) then ((ldI .u8 (p_3.add ((Int.toNat a41) * 1)) w).bind fun v_4 =>
  if (0 : Int) ≤ i5 ∧ i5 < ((80 : Nat) : Int) then ((ldI .u64 (w4.add ((Int.toNat i5) * 1)) w).bind fun v_5 =>
  if (0 : Int) ≤ i5 ∧ i5 < ((80 : Nat) : Int) then ((stC (w4.add ((Int.toNat i5) * 1)) (.int .u64 (bits .or .u64 (IntKind.u64.wrap (v_5 * 2 ^ 8)) (IntKind.u64.wrap v_4))) w).bind fun w_6 =>
  rec h0 b1 w4 i5 a30 a39 a40 (IntKind.i64.wrap (a41 + 1)) w_6) else none) else none) else none) else (some ((), w))
noncomputable def digest_wide_l2 (K : Nat) (n : Nat) : Option Addr → Sl → Addr → Int → Int → Sl → Int → Int → World → Option ((Unit) × World) := iter (fun _ _ _ _ _ _ _ _ _ => none) (digest_wide_l2_b K) n
noncomputable def digest_wide_l1_b (K : Nat) (rec : Option Addr → Sl → Addr → Int → World → Option ((Unit) × World)) (h0 : Option Addr) (b1 : Sl) (w4 : Addr) (a30 : Int) (w : World) : Option ((Unit) × World) :=
  if (decide (a30 < 16)) = true then (if (0 : Int) ≤ (IntKind.i64.wrap ((IntKind.i64.wrap (8 * a30)) + 8)) ∧ (IntKind.i64.wrap ((IntKind.i64.wrap (8 * a30)) + 8)) ≤ ((b1.cap : Nat) : Int) then (if (0 : Int) ≤ (IntKind.i64.wrap (8 * a30)) ∧ (IntKind.i64.wrap (8 * a30)) ≤ (((Int.toNat ((IntKind.i64.wrap ((IntKind.i64.wrap (8 * a30)) + 8)))) : Nat) : Int) then (bnd (digest_wide_l2 K K h0 b1 w4 a30 a30 ⟨(sla b1.a (Int.toNat ((IntKind.i64.wrap (8 * a30)))) b1.cap 1), ((Int.toNat ((IntKind.i64.wrap ((IntKind.i64.wrap (8 * a30)) + 8)))) - (Int.toNat ((IntKind.i64.wrap (8 * a30))))), (b1.cap - (Int.toNat ((IntKind.i64.wrap (8 * a30)))))⟩ ((((Int.toNat ((IntKind.i64.wrap ((IntKind.i64.wrap (8 * a30)) + 8)))) - (Int.toNat ((IntKind.i64.wrap (8 * a30))))) : Nat) : Int) 0 w) fun y_7 w_8 =>
  rec h0 b1 w4 (IntKind.i64.wrap (a30 + 1)) w_8) else none) else none) else (some ((), w))
noncomputable def digest_wide_l1 (K : Nat) (n : Nat) : Option Addr → Sl → Addr → Int → World → Option ((Unit) × World) := iter (fun _ _ _ _ _ => none) (digest_wide_l1_b K) n
noncomputable def digest_wide_l3_b (K : Nat) (rec : Option Addr → Sl → Addr → Int → World → Option ((Unit) × World)) (h0 : Option Addr) (b1 : Sl) (w4 : Addr) (i8 : Int) (w : World) : Option ((Unit) × World) :=
  if (decide (i8 < 80)) = true then (if (0 : Int) ≤ (IntKind.i64.wrap (i8 - 15)) ∧ (IntKind.i64.wrap (i8 - 15)) < ((80 : Nat) : Int) then (if (0 : Int) ≤ (IntKind.i64.wrap (i8 - 2)) ∧ (IntKind.i64.wrap (i8 - 2)) < ((80 : Nat) : Int) then ((ldI .u64 (w4.add ((Int.toNat (IntKind.i64.wrap (i8 - 15))) * 1)) w.drew).bind fun v_11 =>
  (ldI .u64 (w4.add ((Int.toNat (IntKind.i64.wrap (i8 - 2))) * 1)) w.drew).bind fun v_12 =>
  if (0 : Int) ≤ (IntKind.i64.wrap (i8 - 16)) ∧ (IntKind.i64.wrap (i8 - 16)) < ((80 : Nat) : Int) then (if (0 : Int) ≤ (IntKind.i64.wrap (i8 - 7)) ∧ (IntKind.i64.wrap (i8 - 7)) < ((80 : Nat) : Int) then ((ldI .u64 (w4.add ((Int.toNat (IntKind.i64.wrap (i8 - 16))) * 1)) w.drew.drew).bind fun v_13 =>
  (ldI .u64 (w4.add ((Int.toNat (IntKind.i64.wrap (i8 - 7))) * 1)) w.drew.drew).bind fun v_14 =>
  (bits_RotateLeft64 v_11 (-1)).bind fun r_15 =>
  (bits_RotateLeft64 v_11 (-8)).bind fun r_16 =>
  (bits_RotateLeft64 v_12 (-19)).bind fun r_17 =>
  (bits_RotateLeft64 v_12 (-61)).bind fun r_18 =>
  if (0 : Int) ≤ i8 ∧ i8 < ((80 : Nat) : Int) then ((stC (w4.add ((Int.toNat i8) * 1)) (.int .u64 (IntKind.u64.wrap ((IntKind.u64.wrap ((IntKind.u64.wrap (v_13 + v_14)) + (bits .xor .u64 (bits .xor .u64 r_15.1 r_16.1) (Int.fdiv v_11 (2 ^ 7))))) + (bits .xor .u64 (bits .xor .u64 r_17.1 r_18.1) (Int.fdiv v_12 (2 ^ 6)))))) w.drew.drew).bind fun w_19 =>
  rec h0 b1 w4 (IntKind.i64.wrap (i8 + 1)) w_19) else none) else none) else none) else none) else none) else (some ((), w))
noncomputable def digest_wide_l3 (K : Nat) (n : Nat) : Option Addr → Sl → Addr → Int → World → Option ((Unit) × World) := iter (fun _ _ _ _ _ => none) (digest_wide_l3_b K) n
noncomputable def digest_wide_l4_b (K : Nat) (rec : Option Addr → Sl → Addr → Int → Int → Int → Int → Int → Int → Int → Int → Array Value → Int → World → Option ((Int × Int × Int × Int × Int × Int × Int × Int × Unit) × World)) (h0 : Option Addr) (b1 : Sl) (w4 : Addr) (a11 : Int) (b112 : Int) (c13 : Int) (d14 : Int) (e15 : Int) (f16 : Int) (g17 : Int) (k18 : Int) (a129 : Array Value) (a130 : Int) (w : World) : Option ((Int × Int × Int × Int × Int × Int × Int × Int × Unit) × World) :=
  if (decide (a130 < 80)) = true then (if (0 : Int) ≤ a130 ∧ a130 < ((80 : Nat) : Int) then ((a129[((Int.toNat a130) * 1)]?).bind fun v_39 =>
  (asI .u64 v_39).bind fun v_40 =>
  if (0 : Int) ≤ a130 ∧ a130 < ((80 : Nat) : Int) then ((bits_RotateLeft64 e15 (-14)).bind fun r_41 =>
  (bits_RotateLeft64 e15 (-18)).bind fun r_42 =>
  (bits_RotateLeft64 e15 (-41)).bind fun r_43 =>
  (ldI .u64 (w4.add ((Int.toNat a130) * 1)) w.drew).bind fun v_44 =>
  (bits_RotateLeft64 a11 (-28)).bind fun r_45 =>
  (bits_RotateLeft64 a11 (-34)).bind fun r_46 =>
  (bits_RotateLeft64 a11 (-39)).bind fun r_47 =>
  rec h0 b1 w4 (IntKind.u64.wrap ((IntKind.u64.wrap ((IntKind.u64.wrap ((IntKind.u64.wrap ((IntKind.u64.wrap (k18 + (bits .xor .u64 (bits .xor .u64 r_41.1 r_42.1) r_43.1))) + (bits .xor .u64 (bits .and .u64 e15 f16) (bits .and .u64 (bits .xor .u64 IntKind.u64.max e15) g17)))) + v_40)) + v_44)) + (IntKind.u64.wrap ((bits .xor .u64 (bits .xor .u64 r_45.1 r_46.1) r_47.1) + (bits .xor .u64 (bits .xor .u64 (bits .and .u64 a11 b112) (bits .and .u64 a11 c13)) (bits .and .u64 b112 c13)))))) a11 b112 c13 (IntKind.u64.wrap (d14 + (IntKind.u64.wrap ((IntKind.u64.wrap ((IntKind.u64.wrap ((IntKind.u64.wrap (k18 + (bits .xor .u64 (bits .xor .u64 r_41.1 r_42.1) r_43.1))) + (bits .xor .u64 (bits .and .u64 e15 f16) (bits .and .u64 (bits .xor .u64 IntKind.u64.max e15) g17)))) + v_40)) + v_44)))) e15 f16 g17 a129 (IntKind.i64.wrap (a130 + 1)) w.drew) else none) else none) else (some ((a11, b112, c13, d14, e15, f16, g17, k18, ()), w))
noncomputable def digest_wide_l4 (K : Nat) (n : Nat) : Option Addr → Sl → Addr → Int → Int → Int → Int → Int → Int → Int → Int → Array Value → Int → World → Option ((Int × Int × Int × Int × Int × Int × Int × Int × Unit) × World) := iter (fun _ _ _ _ _ _ _ _ _ _ _ _ _ _ => none) (digest_wide_l4_b K) n
noncomputable def digest_wide_l5_b (K : Nat) (rec : Option Addr → Sl → Addr → Array Value → Int → World → Option ((Unit) × World)) (h0 : Option Addr) (b1 : Sl) (w4 : Addr) (a200 : Array Value) (a201 : Int) (w : World) : Option ((Unit) × World) :=
  if (decide (a201 < 8)) = true then (if (0 : Int) ≤ a201 ∧ a201 < ((8 : Nat) : Int) then ((a200[((Int.toNat a201) * 1)]?).bind fun v_51 =>
  (asI .u64 v_51).bind fun v_52 =>
  (h0).bind fun p_53 =>
  if (0 : Int) ≤ a201 ∧ a201 < ((8 : Nat) : Int) then ((h0).bind fun p_54 =>
  (ldI .u64 (p_53.add ((Int.toNat a201) * 1)) w.drew).bind fun v_55 =>
  if (0 : Int) ≤ a201 ∧ a201 < ((8 : Nat) : Int) then ((stC (p_54.add ((Int.toNat a201) * 1)) (.int .u64 (IntKind.u64.wrap (v_55 + v_52))) w.drew).bind fun w_56 =>
  rec h0 b1 w4 a200 (IntKind.i64.wrap (a201 + 1)) w_56) else none) else none) else none) else (some ((), w))
noncomputable def digest_wide_l5 (K : Nat) (n : Nat) : Option Addr → Sl → Addr → Array Value → Int → World → Option ((Unit) × World) := iter (fun _ _ _ _ _ _ => none) (digest_wide_l5_b K) n
noncomputable def digest_wide_l0_b (K : Nat) (rec : Option Addr → Sl → Addr → World → Option ((Unit) × World)) (h0 : Option Addr) (b1 : Sl) (w4 : Addr) (w : World) : Option ((Unit) × World) :=
  if (decide (((b1.len : Nat) : Int) ≥ 128)) = true then (bnd (digest_wide_l1 K K h0 b1 w4 0 w) fun y_9 w_10 =>
  bnd (digest_wide_l3 K K h0 b1 w4 16 w_10) fun y_20 w_21 =>
  (h0).bind fun p_22 =>
  (h0).bind fun p_23 =>
  (h0).bind fun p_24 =>
  (h0).bind fun p_25 =>
  (h0).bind fun p_26 =>
  (h0).bind fun p_27 =>
  (h0).bind fun p_28 =>
  (h0).bind fun p_29 =>
  (ldI .u64 (p_22.add (0 * 1)) w_21.drew).bind fun v_30 =>
  (ldI .u64 (p_23.add (1 * 1)) w_21.drew).bind fun v_31 =>
  (ldI .u64 (p_24.add (2 * 1)) w_21.drew).bind fun v_32 =>
  (ldI .u64 (p_25.add (3 * 1)) w_21.drew).bind fun v_33 =>
  (ldI .u64 (p_26.add (4 * 1)) w_21.drew).bind fun v_34 =>
  (ldI .u64 (p_27.add (5 * 1)) w_21.drew).bind fun v_35 =>
  (ldI .u64 (p_28.add (6 * 1)) w_21.drew).bind fun v_36 =>
  (ldI .u64 (p_29.add (7 * 1)) w_21.drew).bind fun v_37 =>
  (ldA 80 (⟨3, 0, none⟩ : Addr) w_21.drew).bind fun v_38 =>
  bnd (digest_wide_l4 K K h0 b1 w4 v_30 v_31 v_32 v_33 v_34 v_35 v_36 v_37 v_38 0 w_21.drew) fun y_48 w_49 =>
  (prog.built 150 [(0, (.int .u64 y_48.1)), (1, (.int .u64 y_48.2.1)), (2, (.int .u64 y_48.2.2.1)), (3, (.int .u64 y_48.2.2.2.1)), (4, (.int .u64 y_48.2.2.2.2.1)), (5, (.int .u64 y_48.2.2.2.2.2.1)), (6, (.int .u64 y_48.2.2.2.2.2.2.1)), (7, (.int .u64 y_48.2.2.2.2.2.2.2.1))]).bind fun cs_50 =>
  bnd (digest_wide_l5 K K h0 b1 w4 cs_50 0 w_49) fun y_57 w_58 =>
  if (0 : Int) ≤ 128 ∧ 128 ≤ ((b1.len : Nat) : Int) then (rec h0 ⟨(sla b1.a 128 b1.cap 1), (b1.len - 128), (b1.cap - 128)⟩ w4 w_58) else none) else (some ((), w))
noncomputable def digest_wide_l0 (K : Nat) (n : Nat) : Option Addr → Sl → Addr → World → Option ((Unit) × World) := iter (fun _ _ _ _ => none) (digest_wide_l0_b K) n
/-- coffer/digest.wide -/
noncomputable def digest_wide (K : Nat) (h0 : Option Addr) (b1 : Sl) (w : World) : Option ((Unit) × World) :=
  bnd (newB z175 175 w) fun w_1 w_2 =>
  bnd (digest_wide_l0 K K h0 b1 w_1 w_2) fun y_59 w_60 =>
  some ((), w_60)
theorem digest_wide_l2_ok (K : Nat) (n : Nat) : StmtNOk prog [(0, .ptr), (1, .sl), (4, .addr), (5, .int .i64), (30, .int .i64), (39, .sl), (40, .int .i64), (41, .int .i64)] [] [(7, 8), (41, 55)] ((fun n x w => digest_wide_l2 K n x.1 x.2.1 x.2.2.1 x.2.2.2.1 x.2.2.2.2.1 x.2.2.2.2.2.1 x.2.2.2.2.2.2.1 x.2.2.2.2.2.2.2.1 w) n) (.block 4 (.loop (cd (bodyOf f114) [1, 0, 0, 1, 0, 0, 0, 1, 0, 0, 1, 1, 0, 0, 1, 1, 0, 0]))) :=
    mk_loopN (O := tabL []) (root := (bodyOf f114)) (π := [1, 0, 0, 1, 0, 0, 0, 1, 0, 0, 1, 1, 0, 0, 1, 1, 0, 0]) (id := 4) (Li := [(0, .ptr), (1, .sl), (4, .addr), (5, .int .i64), (30, .int .i64), (39, .sl), (40, .int .i64), (41, .int .i64)]) (Lo := []) (S := (fun n x w => digest_wide_l2 K n x.1 x.2.1 x.2.2.1 x.2.2.2.1 x.2.2.2.2.1 x.2.2.2.2.2.1 x.2.2.2.2.2.2.1 x.2.2.2.2.2.2.2.1 w)) (body := cd (bodyOf f114) [1, 0, 0, 1, 0, 0, 0, 1, 0, 0, 1, 1, 0, 0, 1, 1, 0, 0]) (digest_wide_Eok K) (digest_wide_Rok K) rfl (Orc.nil _ _ _) (by kernel_rfl) (fun _ _ => by kernel_rfl) (fun _ _ _ => by kernel_rfl) n
noncomputable def digest_wide_l2_se (K : Nat) : SE := stmtN [(0, .ptr), (1, .sl), (4, .addr), (5, .int .i64), (30, .int .i64), (39, .sl), (40, .int .i64), (41, .int .i64)] [] [(7, 8), (41, 55)] (fun x w => digest_wide_l2 K K x.1 x.2.1 x.2.2.1 x.2.2.2.1 x.2.2.2.2.1 x.2.2.2.2.2.1 x.2.2.2.2.2.2.1 x.2.2.2.2.2.2.2.1 w)
theorem digest_wide_l2_se_ok (K : Nat) (R : Rg) (h : subRB [(7, 8), (41, 55)] R = true) : (digest_wide_l2_se K).Ok prog R (.block 4 (.loop (cd (bodyOf f114) [1, 0, 0, 1, 0, 0, 0, 1, 0, 0, 1, 1, 0, 0, 1, 1, 0, 0]))) := stmtN_ok (Li := [(0, .ptr), (1, .sl), (4, .addr), (5, .int .i64), (30, .int .i64), (39, .sl), (40, .int .i64), (41, .int .i64)]) (Lo := []) (S := (fun x w => digest_wide_l2 K K x.1 x.2.1 x.2.2.1 x.2.2.2.1 x.2.2.2.2.1 x.2.2.2.2.2.1 x.2.2.2.2.2.2.1 x.2.2.2.2.2.2.2.1 w)) (digest_wide_l2_ok K K) (subR_of h)
theorem digest_wide_l1_ok (K : Nat) (n : Nat) : StmtNOk prog [(0, .ptr), (1, .sl), (4, .addr), (30, .int .i64)] [] [(5, 6), (7, 8), (30, 56)] ((fun n x w => digest_wide_l1 K n x.1 x.2.1 x.2.2.1 x.2.2.2.1 w) n) (.block 2 (.loop (cd (bodyOf f114) [1, 0, 0, 1, 0, 0, 0, 1, 0, 0]))) :=
    mk_loopN (O := tabL [([1, 0, 0, 1, 0, 0, 0, 1, 0, 0, 1, 1, 0, 0, 1, 1], digest_wide_l2_se K)]) (root := (bodyOf f114)) (π := [1, 0, 0, 1, 0, 0, 0, 1, 0, 0]) (id := 2) (Li := [(0, .ptr), (1, .sl), (4, .addr), (30, .int .i64)]) (Lo := []) (S := (fun n x w => digest_wide_l1 K n x.1 x.2.1 x.2.2.1 x.2.2.2.1 w)) (body := cd (bodyOf f114) [1, 0, 0, 1, 0, 0, 0, 1, 0, 0]) (digest_wide_Eok K) (digest_wide_Rok K) rfl (Orc.cons (by kernel_rfl) (digest_wide_l2_se_ok K [(5, 6), (7, 8), (30, 56)] (by kernel_rfl)) (Orc.nil _ _ _)) (by kernel_rfl) (fun _ _ => by kernel_rfl) (fun _ _ _ => by kernel_rfl) n
noncomputable def digest_wide_l1_se (K : Nat) : SE := stmtN [(0, .ptr), (1, .sl), (4, .addr), (30, .int .i64)] [] [(5, 6), (7, 8), (30, 56)] (fun x w => digest_wide_l1 K K x.1 x.2.1 x.2.2.1 x.2.2.2.1 w)
theorem digest_wide_l1_se_ok (K : Nat) (R : Rg) (h : subRB [(5, 6), (7, 8), (30, 56)] R = true) : (digest_wide_l1_se K).Ok prog R (.block 2 (.loop (cd (bodyOf f114) [1, 0, 0, 1, 0, 0, 0, 1, 0, 0]))) := stmtN_ok (Li := [(0, .ptr), (1, .sl), (4, .addr), (30, .int .i64)]) (Lo := []) (S := (fun x w => digest_wide_l1 K K x.1 x.2.1 x.2.2.1 x.2.2.2.1 w)) (digest_wide_l1_ok K K) (subR_of h)
theorem digest_wide_l3_ok (K : Nat) (n : Nat) : StmtNOk prog [(0, .ptr), (1, .sl), (4, .addr), (8, .int .i64)] [] [(8, 11), (56, 97)] ((fun n x w => digest_wide_l3 K n x.1 x.2.1 x.2.2.1 x.2.2.2.1 w) n) (.block 6 (.loop (cd (bodyOf f114) [1, 0, 0, 1, 0, 0, 1, 0, 1, 0, 0]))) :=
    mk_loopN (O := tabL []) (root := (bodyOf f114)) (π := [1, 0, 0, 1, 0, 0, 1, 0, 1, 0, 0]) (id := 6) (Li := [(0, .ptr), (1, .sl), (4, .addr), (8, .int .i64)]) (Lo := []) (S := (fun n x w => digest_wide_l3 K n x.1 x.2.1 x.2.2.1 x.2.2.2.1 w)) (body := cd (bodyOf f114) [1, 0, 0, 1, 0, 0, 1, 0, 1, 0, 0]) (digest_wide_Eok K) (digest_wide_Rok K) rfl (Orc.nil _ _ _) (by kernel_rfl) (fun _ _ => by kernel_rfl) (fun _ _ _ => by kernel_rfl) n
noncomputable def digest_wide_l3_se (K : Nat) : SE := stmtN [(0, .ptr), (1, .sl), (4, .addr), (8, .int .i64)] [] [(8, 11), (56, 97)] (fun x w => digest_wide_l3 K K x.1 x.2.1 x.2.2.1 x.2.2.2.1 w)
theorem digest_wide_l3_se_ok (K : Nat) (R : Rg) (h : subRB [(8, 11), (56, 97)] R = true) : (digest_wide_l3_se K).Ok prog R (.block 6 (.loop (cd (bodyOf f114) [1, 0, 0, 1, 0, 0, 1, 0, 1, 0, 0]))) := stmtN_ok (Li := [(0, .ptr), (1, .sl), (4, .addr), (8, .int .i64)]) (Lo := []) (S := (fun x w => digest_wide_l3 K K x.1 x.2.1 x.2.2.1 x.2.2.2.1 w)) (digest_wide_l3_ok K K) (subR_of h)
theorem digest_wide_l4_ok (K : Nat) (n : Nat) : StmtNOk prog [(0, .ptr), (1, .sl), (4, .addr), (11, .int .u64), (12, .int .u64), (13, .int .u64), (14, .int .u64), (15, .int .u64), (16, .int .u64), (17, .int .u64), (18, .int .u64), (129, .agg), (130, .int .i64)] [(11, .int .u64), (12, .int .u64), (13, .int .u64), (14, .int .u64), (15, .int .u64), (16, .int .u64), (17, .int .u64), (18, .int .u64)] [(11, 23), (130, 192)] ((fun n x w => digest_wide_l4 K n x.1 x.2.1 x.2.2.1 x.2.2.2.1 x.2.2.2.2.1 x.2.2.2.2.2.1 x.2.2.2.2.2.2.1 x.2.2.2.2.2.2.2.1 x.2.2.2.2.2.2.2.2.1 x.2.2.2.2.2.2.2.2.2.1 x.2.2.2.2.2.2.2.2.2.2.1 x.2.2.2.2.2.2.2.2.2.2.2.1 x.2.2.2.2.2.2.2.2.2.2.2.2.1 w) n) (.block 8 (.loop (cd (bodyOf f114) [1, 0, 0, 1, 0, 0, 1, 1, 1, 0, 1, 0, 0]))) :=
    mk_loopN (O := tabL []) (root := (bodyOf f114)) (π := [1, 0, 0, 1, 0, 0, 1, 1, 1, 0, 1, 0, 0]) (id := 8) (Li := [(0, .ptr), (1, .sl), (4, .addr), (11, .int .u64), (12, .int .u64), (13, .int .u64), (14, .int .u64), (15, .int .u64), (16, .int .u64), (17, .int .u64), (18, .int .u64), (129, .agg), (130, .int .i64)]) (Lo := [(11, .int .u64), (12, .int .u64), (13, .int .u64), (14, .int .u64), (15, .int .u64), (16, .int .u64), (17, .int .u64), (18, .int .u64)]) (S := (fun n x w => digest_wide_l4 K n x.1 x.2.1 x.2.2.1 x.2.2.2.1 x.2.2.2.2.1 x.2.2.2.2.2.1 x.2.2.2.2.2.2.1 x.2.2.2.2.2.2.2.1 x.2.2.2.2.2.2.2.2.1 x.2.2.2.2.2.2.2.2.2.1 x.2.2.2.2.2.2.2.2.2.2.1 x.2.2.2.2.2.2.2.2.2.2.2.1 x.2.2.2.2.2.2.2.2.2.2.2.2.1 w)) (body := cd (bodyOf f114) [1, 0, 0, 1, 0, 0, 1, 1, 1, 0, 1, 0, 0]) (digest_wide_Eok K) (digest_wide_Rok K) rfl (Orc.nil _ _ _) (by kernel_rfl) (fun _ _ => by kernel_rfl) (fun _ _ _ => by kernel_rfl) n
noncomputable def digest_wide_l4_se (K : Nat) : SE := stmtN [(0, .ptr), (1, .sl), (4, .addr), (11, .int .u64), (12, .int .u64), (13, .int .u64), (14, .int .u64), (15, .int .u64), (16, .int .u64), (17, .int .u64), (18, .int .u64), (129, .agg), (130, .int .i64)] [(11, .int .u64), (12, .int .u64), (13, .int .u64), (14, .int .u64), (15, .int .u64), (16, .int .u64), (17, .int .u64), (18, .int .u64)] [(11, 23), (130, 192)] (fun x w => digest_wide_l4 K K x.1 x.2.1 x.2.2.1 x.2.2.2.1 x.2.2.2.2.1 x.2.2.2.2.2.1 x.2.2.2.2.2.2.1 x.2.2.2.2.2.2.2.1 x.2.2.2.2.2.2.2.2.1 x.2.2.2.2.2.2.2.2.2.1 x.2.2.2.2.2.2.2.2.2.2.1 x.2.2.2.2.2.2.2.2.2.2.2.1 x.2.2.2.2.2.2.2.2.2.2.2.2.1 w)
theorem digest_wide_l4_se_ok (K : Nat) (R : Rg) (h : subRB [(11, 23), (130, 192)] R = true) : (digest_wide_l4_se K).Ok prog R (.block 8 (.loop (cd (bodyOf f114) [1, 0, 0, 1, 0, 0, 1, 1, 1, 0, 1, 0, 0]))) := stmtN_ok (Li := [(0, .ptr), (1, .sl), (4, .addr), (11, .int .u64), (12, .int .u64), (13, .int .u64), (14, .int .u64), (15, .int .u64), (16, .int .u64), (17, .int .u64), (18, .int .u64), (129, .agg), (130, .int .i64)]) (Lo := [(11, .int .u64), (12, .int .u64), (13, .int .u64), (14, .int .u64), (15, .int .u64), (16, .int .u64), (17, .int .u64), (18, .int .u64)]) (S := (fun x w => digest_wide_l4 K K x.1 x.2.1 x.2.2.1 x.2.2.2.1 x.2.2.2.2.1 x.2.2.2.2.2.1 x.2.2.2.2.2.2.1 x.2.2.2.2.2.2.2.1 x.2.2.2.2.2.2.2.2.1 x.2.2.2.2.2.2.2.2.2.1 x.2.2.2.2.2.2.2.2.2.2.1 x.2.2.2.2.2.2.2.2.2.2.2.1 x.2.2.2.2.2.2.2.2.2.2.2.2.1 w)) (digest_wide_l4_ok K K) (subR_of h)
theorem digest_wide_l5_ok (K : Nat) (n : Nat) : StmtNOk prog [(0, .ptr), (1, .sl), (4, .addr), (200, .agg), (201, .int .i64)] [] [(23, 25), (201, 215)] ((fun n x w => digest_wide_l5 K n x.1 x.2.1 x.2.2.1 x.2.2.2.1 x.2.2.2.2.1 w) n) (.block 10 (.loop (cd (bodyOf f114) [1, 0, 0, 1, 0, 0, 1, 1, 1, 1, 1, 0, 0]))) :=
    mk_loopN (O := tabL []) (root := (bodyOf f114)) (π := [1, 0, 0, 1, 0, 0, 1, 1, 1, 1, 1, 0, 0]) (id := 10) (Li := [(0, .ptr), (1, .sl), (4, .addr), (200, .agg), (201, .int .i64)]) (Lo := []) (S := (fun n x w => digest_wide_l5 K n x.1 x.2.1 x.2.2.1 x.2.2.2.1 x.2.2.2.2.1 w)) (body := cd (bodyOf f114) [1, 0, 0, 1, 0, 0, 1, 1, 1, 1, 1, 0, 0]) (digest_wide_Eok K) (digest_wide_Rok K) rfl (Orc.nil _ _ _) (by kernel_rfl) (fun _ _ => by kernel_rfl) (fun _ _ _ => by kernel_rfl) n
noncomputable def digest_wide_l5_se (K : Nat) : SE := stmtN [(0, .ptr), (1, .sl), (4, .addr), (200, .agg), (201, .int .i64)] [] [(23, 25), (201, 215)] (fun x w => digest_wide_l5 K K x.1 x.2.1 x.2.2.1 x.2.2.2.1 x.2.2.2.2.1 w)
theorem digest_wide_l5_se_ok (K : Nat) (R : Rg) (h : subRB [(23, 25), (201, 215)] R = true) : (digest_wide_l5_se K).Ok prog R (.block 10 (.loop (cd (bodyOf f114) [1, 0, 0, 1, 0, 0, 1, 1, 1, 1, 1, 0, 0]))) := stmtN_ok (Li := [(0, .ptr), (1, .sl), (4, .addr), (200, .agg), (201, .int .i64)]) (Lo := []) (S := (fun x w => digest_wide_l5 K K x.1 x.2.1 x.2.2.1 x.2.2.2.1 x.2.2.2.2.1 w)) (digest_wide_l5_ok K K) (subR_of h)
theorem digest_wide_l0_ok (K : Nat) (n : Nat) : StmtNOk prog [(0, .ptr), (1, .sl), (4, .addr)] [] [(1, 2), (5, 6), (7, 215)] ((fun n x w => digest_wide_l0 K n x.1 x.2.1 x.2.2.1 w) n) (.block 0 (.loop (cd (bodyOf f114) [1, 0, 0]))) :=
    mk_loopN (O := tabL [([1, 0, 0, 1, 0, 0, 0, 1], digest_wide_l1_se K), ([1, 0, 0, 1, 0, 0, 0, 1, 0, 0, 1, 1, 0, 0, 1, 1], digest_wide_l2_se K), ([1, 0, 0, 1, 0, 0, 1, 0, 1], digest_wide_l3_se K), ([1, 0, 0, 1, 0, 0, 1, 1, 1, 0, 1], digest_wide_l4_se K), ([1, 0, 0, 1, 0, 0, 1, 1, 1, 1, 1], digest_wide_l5_se K)]) (root := (bodyOf f114)) (π := [1, 0, 0]) (id := 0) (Li := [(0, .ptr), (1, .sl), (4, .addr)]) (Lo := []) (S := (fun n x w => digest_wide_l0 K n x.1 x.2.1 x.2.2.1 w)) (body := cd (bodyOf f114) [1, 0, 0]) (digest_wide_Eok K) (digest_wide_Rok K) rfl (Orc.cons (by kernel_rfl) (digest_wide_l1_se_ok K [(1, 2), (5, 6), (7, 215)] (by kernel_rfl)) (Orc.cons (by kernel_rfl) (digest_wide_l2_se_ok K [(1, 2), (5, 6), (7, 215)] (by kernel_rfl)) (Orc.cons (by kernel_rfl) (digest_wide_l3_se_ok K [(1, 2), (5, 6), (7, 215)] (by kernel_rfl)) (Orc.cons (by kernel_rfl) (digest_wide_l4_se_ok K [(1, 2), (5, 6), (7, 215)] (by kernel_rfl)) (Orc.cons (by kernel_rfl) (digest_wide_l5_se_ok K [(1, 2), (5, 6), (7, 215)] (by kernel_rfl)) (Orc.nil _ _ _)))))) (by kernel_rfl) (fun _ _ => by kernel_rfl) (fun _ _ _ => by kernel_rfl) n
noncomputable def digest_wide_l0_se (K : Nat) : SE := stmtN [(0, .ptr), (1, .sl), (4, .addr)] [] [(1, 2), (5, 6), (7, 215)] (fun x w => digest_wide_l0 K K x.1 x.2.1 x.2.2.1 w)
theorem digest_wide_l0_se_ok (K : Nat) (R : Rg) (h : subRB [(1, 2), (5, 6), (7, 215)] R = true) : (digest_wide_l0_se K).Ok prog R (.block 0 (.loop (cd (bodyOf f114) [1, 0, 0]))) := stmtN_ok (Li := [(0, .ptr), (1, .sl), (4, .addr)]) (Lo := []) (S := (fun x w => digest_wide_l0 K K x.1 x.2.1 x.2.2.1 w)) (digest_wide_l0_ok K K) (subR_of h)
theorem digest_wide_facts : FunFacts prog 114 f114 (bodyOf f114) [(0, .ptr), (1, .sl)] [(0, 215)] := ⟨func114, by kernel_rfl, by kernel_rfl, by kernel_rfl, by kernel_rfl, by kernel_rfl⟩
theorem digest_wide_calls (K : Nat) (x : TT [(0, .ptr), (1, .sl)]) (w : World) (y : TR []) (w2 : World) (h : digest_wide K x.1 x.2.1 w = some (y, w2)) : Calls prog 114 (encA [(0, .ptr), (1, .sl)] x).toArray w (fun e w3 => e = .returned (resV (encR [] y)) ∧ w3 = w2) :=
    mk_fun (O := tabL [([1], digest_wide_l0_se K), ([1, 0, 0, 1, 0, 0, 0, 1], digest_wide_l1_se K), ([1, 0, 0, 1, 0, 0, 0, 1, 0, 0, 1, 1, 0, 0, 1, 1], digest_wide_l2_se K), ([1, 0, 0, 1, 0, 0, 1, 0, 1], digest_wide_l3_se K), ([1, 0, 0, 1, 0, 0, 1, 1, 1, 0, 1], digest_wide_l4_se K), ([1, 0, 0, 1, 0, 0, 1, 1, 1, 1, 1], digest_wide_l5_se K)]) (Lp := [(0, .ptr), (1, .sl)]) (Rt := []) (S := (fun x w => digest_wide K x.1 x.2.1 w)) (digest_wide_Eok K) (digest_wide_Rok K) rfl digest_wide_facts (Orc.cons (by kernel_rfl) (digest_wide_l0_se_ok K [(0, 215)] (by kernel_rfl)) (Orc.cons (by kernel_rfl) (digest_wide_l1_se_ok K [(0, 215)] (by kernel_rfl)) (Orc.cons (by kernel_rfl) (digest_wide_l2_se_ok K [(0, 215)] (by kernel_rfl)) (Orc.cons (by kernel_rfl) (digest_wide_l3_se_ok K [(0, 215)] (by kernel_rfl)) (Orc.cons (by kernel_rfl) (digest_wide_l4_se_ok K [(0, 215)] (by kernel_rfl)) (Orc.cons (by kernel_rfl) (digest_wide_l5_se_ok K [(0, 215)] (by kernel_rfl)) (Orc.nil _ _ _))))))) (fun _ _ => by kernel_rfl) x w y w2 h
noncomputable def digest_wide_ce (K : Nat) : CE := funE [(0, .ptr), (1, .sl)] [] (fun x w => digest_wide K x.1 x.2.1 w)
theorem digest_wide_ok (K : Nat) : (digest_wide_ce K).Ok prog 114 := funE_ok (Rt := []) (S := (fun x w => digest_wide K x.1 x.2.1 w)) digest_wide_facts fun x w y w2 h => digest_wide_calls K x w y w2 h

noncomputable def bits_RotateLeft32_R : List (Nat × RE) := []
theorem bits_RotateLeft32_Rok : REnv.Ok prog (tab (bits_RotateLeft32_R)) := (REnv.nil _)
/-- math/bits.RotateLeft32 -/
noncomputable def bits_RotateLeft32 (x0 : Int) (k1 : Int) : Option (Int × Unit) :=
  if (0 : Int) ≤ (bits .and .u64 (IntKind.u64.wrap k1) 31) then (if (0 : Int) ≤ (IntKind.u64.wrap (32 - (bits .and .u64 (IntKind.u64.wrap k1) 31))) then (some ((bits .or .u32 (IntKind.u32.wrap (x0 * 2 ^ (min (Int.toNat (bits .and .u64 (IntKind.u64.wrap k1) 31)) IntKind.u32.bits))) (Int.fdiv x0 (2 ^ (min (Int.toNat (IntKind.u64.wrap (32 - (bits .and .u64 (IntKind.u64.wrap k1) 31)))) IntKind.u32.bits)))), ())) else none) else none
theorem bits_RotateLeft32_facts : FunFacts prog 132 f132 (bodyOf f132) [(0, .int .u32), (1, .int .i64)] [(0, 17)] := ⟨func132, by kernel_rfl, by kernel_rfl, by kernel_rfl, by kernel_rfl, by kernel_rfl⟩
theorem bits_RotateLeft32_calls (x : TT [(0, .int .u32), (1, .int .i64)]) (w : World) (y : TR [.int .u32]) (h : bits_RotateLeft32 x.1 x.2.1 = some y) : Calls prog 132 (encA [(0, .int .u32), (1, .int .i64)] x).toArray w (fun e w3 => e = .returned (resV (encR [.int .u32] y)) ∧ w3 = w) :=
    mk_funQ (O := tabL []) (Lp := [(0, .int .u32), (1, .int .i64)]) (Rt := [.int .u32]) (S := (fun x w => bits_RotateLeft32 x.1 x.2.1)) (bits_RotateLeft32_Rok) bits_RotateLeft32_facts (OrcQ.nil _ _ _) (fun _ _ => by kernel_rfl) x w y h
noncomputable def bits_RotateLeft32_re : RE := funR [(0, .int .u32), (1, .int .i64)] [.int .u32] (fun x w => bits_RotateLeft32 x.1 x.2.1)
theorem bits_RotateLeft32_ok : (bits_RotateLeft32_re).Ok prog 132 := funR_ok (Rt := [.int .u32]) (S := (fun x w => bits_RotateLeft32 x.1 x.2.1)) bits_RotateLeft32_facts fun x w y h => bits_RotateLeft32_calls x w y h

noncomputable def digest_narrow_E (K : Nat) : List (Nat × CE) := []
theorem digest_narrow_Eok (K : Nat) : Env.Ok prog (tab (digest_narrow_E K)) := (Env.nil _)
noncomputable def digest_narrow_R (K : Nat) : List (Nat × RE) := [(132, bits_RotateLeft32_re)]
theorem digest_narrow_Rok (K : Nat) : REnv.Ok prog (tab (digest_narrow_R K)) := (REnv.cons (bits_RotateLeft32_ok) (REnv.nil _))
noncomputable def digest_narrow_l1_b (K : Nat) (rec : Option Addr → Sl → Addr → Int → World → Option ((Unit) × World)) (h0 : Option Addr) (b1 : Sl) (w4 : Addr) (a31 : Int) (w : World) : Option ((Unit) × World) :=
  if (decide (a31 < 16)) = true then (if (0 : Int) ≤ (IntKind.i64.wrap ((IntKind.i64.wrap (4 * a31)) + 4)) ∧ (IntKind.i64.wrap ((IntKind.i64.wrap (4 * a31)) + 4)) ≤ ((b1.cap : Nat) : Int) then (if (0 : Int) ≤ (IntKind.i64.wrap (4 * a31)) ∧ (IntKind.i64.wrap (4 * a31)) ≤ (((Int.toNat ((IntKind.i64.wrap ((IntKind.i64.wrap (4 * a31)) + 4)))) : Nat) : Int) then (((sla b1.a (Int.toNat ((IntKind.i64.wrap (4 * a31)))) b1.cap 1)).bind fun p_3 =>
  if (0 : Int) ≤ 0 ∧ 0 < ((((Int.toNat ((IntKind.i64.wrap ((IntKind.i64.wrap (4 * a31)) + 4)))) - (Int.toNat ((IntKind.i64.wrap (4 * a31))))) : Nat) : Int) then (((sla b1.a (Int.toNat ((IntKind.i64.wrap (4 * a31)))) b1.cap 1)).bind fun p_4 =>
  if (0 : Int) ≤ 1 ∧ 1 < ((((Int.toNat ((IntKind.i64.wrap ((IntKind.i64.wrap (4 * a31)) + 4)))) - (Int.toNat ((IntKind.i64.wrap (4 * a31))))) : Nat) : Int) then (((sla b1.a (Int.toNat ((IntKind.i64.wrap (4 * a31)))) b1.cap 1)).bind fun p_5 =>
  if (0 : Int) ≤ 2 ∧ 2 < ((((Int.toNat ((IntKind.i64.wrap ((IntKind.i64.wrap (4 * a31)) + 4)))) - (Int.toNat ((IntKind.i64.wrap (4 * a31))))) : Nat) : Int) then (((sla b1.a (Int.toNat ((IntKind.i64.wrap (4 * a31)))) b1.cap 1)).bind fun p_6 =>
  if (0 : Int) ≤ 3 ∧ 3 < ((((Int.toNat ((IntKind.i64.wrap ((IntKind.i64.wrap (4 * a31)) + 4)))) - (Int.toNat ((IntKind.i64.wrap (4 * a31))))) : Nat) : Int) then ((ldI .u8 (p_3.add (0 * 1)) w.drew).bind fun v_7 =>
  (ldI .u8 (p_4.add (1 * 1)) w.drew).bind fun v_8 =>
  (ldI .u8 (p_5.add (2 * 1)) w.drew).bind fun v_9 =>
  (ldI .u8 (p_6.add (3 * 1)) w.drew).bind fun v_10 =>
  if (0 : Int) ≤ a31 ∧ a31 < ((64 : Nat) : Int) then ((stC (w4.add ((Int.toNat a31) * 1)) (.int .u32 (bits .or .u32 (bits .or .u32 (bits .or .u32 (IntKind.u32.wrap ((IntKind.u32.wrap v_7) * 2 ^ 24)) (IntKind.u32.wrap ((IntKind.u32.wrap v_8) * 2 ^ 16))) (IntKind.u32.wrap ((IntKind.u32.wrap v_9) * 2 ^ 8))) (IntKind.u32.wrap v_10))) w.drew).bind fun w_11 =>
  rec h0 b1 w4 (IntKind.i64.wrap (a31 + 1)) w_11) else none) else none) else none) else none) else none) else none) else none) else (some ((), w))
noncomputable def digest_narrow_l1 (K : Nat) (n : Nat) : Option Addr → Sl → Addr → Int → World → Option ((Unit) × World) := iter (fun _ _ _ _ _ => none) (digest_narrow_l1_b K) n
noncomputable def digest_narrow_l2_b (K : Nat) (rec : Option Addr → Sl → Addr → Int → World → Option ((Unit) × World)) (h0 : Option Addr) (b1 : Sl) (w4 : Addr) (i7 : Int) (w : World) : Option ((Unit) × World) :=
  if (decide (i7 < 64)) = true then (if (0 : Int) ≤ (IntKind.i64.wrap (i7 - 15)) ∧ (IntKind.i64.wrap (i7 - 15)) < ((64 : Nat) : Int) then (if (0 : Int) ≤ (IntKind.i64.wrap (i7 - 2)) ∧ (IntKind.i64.wrap (i7 - 2)) < ((64 : Nat) : Int) then ((ldI .u32 (w4.add ((Int.toNat (IntKind.i64.wrap (i7 - 15))) * 1)) w.drew).bind fun v_14 =>
  (ldI .u32 (w4.add ((Int.toNat (IntKind.i64.wrap (i7 - 2))) * 1)) w.drew).bind fun v_15 =>
  if (0 : Int) ≤ (IntKind.i64.wrap (i7 - 16)) ∧ (IntKind.i64.wrap (i7 - 16)) < ((64 : Nat) : Int) then (if (0 : Int) ≤ (IntKind.i64.wrap (i7 - 7)) ∧ (IntKind.i64.wrap (i7 - 7)) < ((64 : Nat) : Int) then ((ldI .u32 (w4.add ((Int.toNat (IntKind.i64.wrap (i7 - 16))) * 1)) w.drew.drew).bind fun v_16 =>
  (ldI .u32 (w4.add ((Int.toNat (IntKind.i64.wrap (i7 - 7))) * 1)) w.drew.drew).bind fun v_17 =>
  (bits_RotateLeft32 v_14 (-7)).bind fun r_18 =>
  (bits_RotateLeft32 v_14 (-18)).bind fun r_19 =>
  (bits_RotateLeft32 v_15 (-17)).bind fun r_20 =>
  (bits_RotateLeft32 v_15 (-19)).bind fun r_21 =>
  if (0 : Int) ≤ i7 ∧ i7 < ((64 : Nat) : Int) then ((stC (w4.add ((Int.toNat i7) * 1)) (.int .u32 (IntKind.u32.wrap ((IntKind.u32.wrap ((IntKind.u32.wrap (v_16 + v_17)) + (bits .xor .u32 (bits .xor .u32 r_18.1 r_19.1) (Int.fdiv v_14 (2 ^ 3))))) + (bits .xor .u32 (bits .xor .u32 r_20.1 r_21.1) (Int.fdiv v_15 (2 ^ 10)))))) w.drew.drew).bind fun w_22 =>
  rec h0 b1 w4 (IntKind.i64.wrap (i7 + 1)) w_22) else none) else none) else none) else none) else none) else (some ((), w))
noncomputable def digest_narrow_l2 (K : Nat) (n : Nat) : Option Addr → Sl → Addr → Int → World → Option ((Unit) × World) := iter (fun _ _ _ _ _ => none) (digest_narrow_l2_b K) n
noncomputable def digest_narrow_l3_b (K : Nat) (rec : Option Addr → Sl → Addr → Addr → Int → World → Option ((Unit) × World)) (h0 : Option Addr) (b1 : Sl) (w4 : Addr) (v10 : Addr) (a107 : Int) (w : World) : Option ((Unit) × World) :=
  if (decide (a107 < 8)) = true then ((h0).bind fun p_27 =>
  if (0 : Int) ≤ a107 ∧ a107 < ((8 : Nat) : Int) then ((ldI .u64 (p_27.add ((Int.toNat a107) * 1)) w).bind fun v_28 =>
  if (0 : Int) ≤ a107 ∧ a107 < ((8 : Nat) : Int) then ((stC (v10.add ((Int.toNat a107) * 1)) (.int .u32 (IntKind.u32.wrap v_28)) w).bind fun w_29 =>
  rec h0 b1 w4 v10 (IntKind.i64.wrap (a107 + 1)) w_29) else none) else none) else (some ((), w))
noncomputable def digest_narrow_l3 (K : Nat) (n : Nat) : Option Addr → Sl → Addr → Addr → Int → World → Option ((Unit) × World) := iter (fun _ _ _ _ _ _ => none) (digest_narrow_l3_b K) n
noncomputable def digest_narrow_l4_b (K : Nat) (rec : Option Addr → Sl → Addr → Addr → Int → Int → Int → Int → Int → Int → Int → Int → Int → World → Option ((Int × Int × Int × Int × Int × Int × Int × Int × Unit) × World)) (h0 : Option Addr) (b1 : Sl) (w4 : Addr) (v10 : Addr) (a12 : Int) (b113 : Int) (c14 : Int) (d15 : Int) (e16 : Int) (f17 : Int) (g18 : Int) (k19 : Int) (a135 : Int) (w : World) : Option ((Int × Int × Int × Int × Int × Int × Int × Int × Unit) × World) :=
  if (decide (a135 < 64)) = true then (if (0 : Int) ≤ a135 ∧ a135 < ((80 : Nat) : Int) then ((ldI .u64 ((⟨3, 0, none⟩ : Addr).add ((Int.toNat a135) * 1)) w).bind fun v_40 =>
  if (0 : Int) ≤ a135 ∧ a135 < ((64 : Nat) : Int) then ((bits_RotateLeft32 e16 (-6)).bind fun r_41 =>
  (bits_RotateLeft32 e16 (-11)).bind fun r_42 =>
  (bits_RotateLeft32 e16 (-25)).bind fun r_43 =>
  (ldI .u32 (w4.add ((Int.toNat a135) * 1)) w.drew).bind fun v_44 =>
  (bits_RotateLeft32 a12 (-2)).bind fun r_45 =>
  (bits_RotateLeft32 a12 (-13)).bind fun r_46 =>
  (bits_RotateLeft32 a12 (-22)).bind fun r_47 =>
  rec h0 b1 w4 v10 (IntKind.u32.wrap ((IntKind.u32.wrap ((IntKind.u32.wrap ((IntKind.u32.wrap ((IntKind.u32.wrap (k19 + (bits .xor .u32 (bits .xor .u32 r_41.1 r_42.1) r_43.1))) + (bits .xor .u32 (bits .and .u32 e16 f17) (bits .and .u32 (bits .xor .u32 IntKind.u32.max e16) g18)))) + (IntKind.u32.wrap (Int.fdiv v_40 (2 ^ 32))))) + v_44)) + (IntKind.u32.wrap ((bits .xor .u32 (bits .xor .u32 r_45.1 r_46.1) r_47.1) + (bits .xor .u32 (bits .xor .u32 (bits .and .u32 a12 b113) (bits .and .u32 a12 c14)) (bits .and .u32 b113 c14)))))) a12 b113 c14 (IntKind.u32.wrap (d15 + (IntKind.u32.wrap ((IntKind.u32.wrap ((IntKind.u32.wrap ((IntKind.u32.wrap (k19 + (bits .xor .u32 (bits .xor .u32 r_41.1 r_42.1) r_43.1))) + (bits .xor .u32 (bits .and .u32 e16 f17) (bits .and .u32 (bits .xor .u32 IntKind.u32.max e16) g18)))) + (IntKind.u32.wrap (Int.fdiv v_40 (2 ^ 32))))) + v_44)))) e16 f17 g18 (IntKind.i64.wrap (a135 + 1)) w.drew) else none) else none) else (some ((a12, b113, c14, d15, e16, f17, g18, k19, ()), w))
noncomputable def digest_narrow_l4 (K : Nat) (n : Nat) : Option Addr → Sl → Addr → Addr → Int → Int → Int → Int → Int → Int → Int → Int → Int → World → Option ((Int × Int × Int × Int × Int × Int × Int × Int × Unit) × World) := iter (fun _ _ _ _ _ _ _ _ _ _ _ _ _ _ => none) (digest_narrow_l4_b K) n
noncomputable def digest_narrow_l5_b (K : Nat) (rec : Option Addr → Sl → Addr → Addr → Array Value → Int → World → Option ((Unit) × World)) (h0 : Option Addr) (b1 : Sl) (w4 : Addr) (v10 : Addr) (a209 : Array Value) (a210 : Int) (w : World) : Option ((Unit) × World) :=
  if (decide (a210 < 8)) = true then (if (0 : Int) ≤ a210 ∧ a210 < ((8 : Nat) : Int) then ((a209[((Int.toNat a210) * 1)]?).bind fun v_51 =>
  (asI .u32 v_51).bind fun v_52 =>
  if (0 : Int) ≤ a210 ∧ a210 < ((8 : Nat) : Int) then ((h0).bind fun p_53 =>
  (ldI .u32 (v10.add ((Int.toNat a210) * 1)) w.drew).bind fun v_54 =>
  if (0 : Int) ≤ a210 ∧ a210 < ((8 : Nat) : Int) then ((stC (p_53.add ((Int.toNat a210) * 1)) (.int .u64 (IntKind.u64.wrap (IntKind.u32.wrap (v_54 + v_52)))) w.drew).bind fun w_55 =>
  rec h0 b1 w4 v10 a209 (IntKind.i64.wrap (a210 + 1)) w_55) else none) else none) else none) else (some ((), w))
noncomputable def digest_narrow_l5 (K : Nat) (n : Nat) : Option Addr → Sl → Addr → Addr → Array Value → Int → World → Option ((Unit) × World) := iter (fun _ _ _ _ _ _ _ => none) (digest_narrow_l5_b K) n
noncomputable def digest_narrow_l0_b (K : Nat) (rec : Option Addr → Sl → Addr → World → Option ((Unit) × World)) (h0 : Option Addr) (b1 : Sl) (w4 : Addr) (w : World) : Option ((Unit) × World) :=
  if (decide (((b1.len : Nat) : Int) ≥ 64)) = true then (bnd (digest_narrow_l1 K K h0 b1 w4 0 w) fun y_12 w_13 =>
  bnd (digest_narrow_l2 K K h0 b1 w4 16 w_13) fun y_23 w_24 =>
  bnd (newB z176 176 w_24) fun v_25 w_26 =>
  bnd (digest_narrow_l3 K K h0 b1 w4 v_25 0 w_26) fun y_30 w_31 =>
  (ldI .u32 (v_25.add (0 * 1)) w_31.drew).bind fun v_32 =>
  (ldI .u32 (v_25.add (1 * 1)) w_31.drew).bind fun v_33 =>
  (ldI .u32 (v_25.add (2 * 1)) w_31.drew).bind fun v_34 =>
  (ldI .u32 (v_25.add (3 * 1)) w_31.drew).bind fun v_35 =>
  (ldI .u32 (v_25.add (4 * 1)) w_31.drew).bind fun v_36 =>
  (ldI .u32 (v_25.add (5 * 1)) w_31.drew).bind fun v_37 =>
  (ldI .u32 (v_25.add (6 * 1)) w_31.drew).bind fun v_38 =>
  (ldI .u32 (v_25.add (7 * 1)) w_31.drew).bind fun v_39 =>
  bnd (digest_narrow_l4 K K h0 b1 w4 v_25 v_32 v_33 v_34 v_35 v_36 v_37 v_38 v_39 0 w_31.drew) fun y_48 w_49 =>
  (prog.built 176 [(0, (.int .u32 y_48.1)), (1, (.int .u32 y_48.2.1)), (2, (.int .u32 y_48.2.2.1)), (3, (.int .u32 y_48.2.2.2.1)), (4, (.int .u32 y_48.2.2.2.2.1)), (5, (.int .u32 y_48.2.2.2.2.2.1)), (6, (.int .u32 y_48.2.2.2.2.2.2.1)), (7, (.int .u32 y_48.2.2.2.2.2.2.2.1))]).bind fun cs_50 =>
  bnd (digest_narrow_l5 K K h0 b1 w4 v_25 cs_50 0 w_49) fun y_56 w_57 =>
  if (0 : Int) ≤ 64 ∧ 64 ≤ ((b1.len : Nat) : Int) then (rec h0 ⟨(sla b1.a 64 b1.cap 1), (b1.len - 64), (b1.cap - 64)⟩ w4 w_57) else none) else (some ((), w))
noncomputable def digest_narrow_l0 (K : Nat) (n : Nat) : Option Addr → Sl → Addr → World → Option ((Unit) × World) := iter (fun _ _ _ _ => none) (digest_narrow_l0_b K) n
/-- coffer/digest.narrow -/
noncomputable def digest_narrow (K : Nat) (h0 : Option Addr) (b1 : Sl) (w : World) : Option ((Unit) × World) :=
  bnd (newB z174 174 w) fun w_1 w_2 =>
  bnd (digest_narrow_l0 K K h0 b1 w_1 w_2) fun y_58 w_59 =>
  some ((), w_59)
theorem digest_narrow_l1_ok (K : Nat) (n : Nat) : StmtNOk prog [(0, .ptr), (1, .sl), (4, .addr), (31, .int .i64)] [] [(5, 7), (31, 66)] ((fun n x w => digest_narrow_l1 K n x.1 x.2.1 x.2.2.1 x.2.2.2.1 w) n) (.block 2 (.loop (cd (bodyOf f113) [1, 0, 0, 1, 0, 0, 0, 1, 0, 0]))) :=
    mk_loopN (O := tabL []) (root := (bodyOf f113)) (π := [1, 0, 0, 1, 0, 0, 0, 1, 0, 0]) (id := 2) (Li := [(0, .ptr), (1, .sl), (4, .addr), (31, .int .i64)]) (Lo := []) (S := (fun n x w => digest_narrow_l1 K n x.1 x.2.1 x.2.2.1 x.2.2.2.1 w)) (body := cd (bodyOf f113) [1, 0, 0, 1, 0, 0, 0, 1, 0, 0]) (digest_narrow_Eok K) (digest_narrow_Rok K) rfl (Orc.nil _ _ _) (by kernel_rfl) (fun _ _ => by kernel_rfl) (fun _ _ _ => by kernel_rfl) n
noncomputable def digest_narrow_l1_se (K : Nat) : SE := stmtN [(0, .ptr), (1, .sl), (4, .addr), (31, .int .i64)] [] [(5, 7), (31, 66)] (fun x w => digest_narrow_l1 K K x.1 x.2.1 x.2.2.1 x.2.2.2.1 w)
theorem digest_narrow_l1_se_ok (K : Nat) (R : Rg) (h : subRB [(5, 7), (31, 66)] R = true) : (digest_narrow_l1_se K).Ok prog R (.block 2 (.loop (cd (bodyOf f113) [1, 0, 0, 1, 0, 0, 0, 1, 0, 0]))) := stmtN_ok (Li := [(0, .ptr), (1, .sl), (4, .addr), (31, .int .i64)]) (Lo := []) (S := (fun x w => digest_narrow_l1 K K x.1 x.2.1 x.2.2.1 x.2.2.2.1 w)) (digest_narrow_l1_ok K K) (subR_of h)
theorem digest_narrow_l2_ok (K : Nat) (n : Nat) : StmtNOk prog [(0, .ptr), (1, .sl), (4, .addr), (7, .int .i64)] [] [(7, 10), (66, 107)] ((fun n x w => digest_narrow_l2 K n x.1 x.2.1 x.2.2.1 x.2.2.2.1 w) n) (.block 4 (.loop (cd (bodyOf f113) [1, 0, 0, 1, 0, 0, 1, 0, 1, 0, 0]))) :=
    mk_loopN (O := tabL []) (root := (bodyOf f113)) (π := [1, 0, 0, 1, 0, 0, 1, 0, 1, 0, 0]) (id := 4) (Li := [(0, .ptr), (1, .sl), (4, .addr), (7, .int .i64)]) (Lo := []) (S := (fun n x w => digest_narrow_l2 K n x.1 x.2.1 x.2.2.1 x.2.2.2.1 w)) (body := cd (bodyOf f113) [1, 0, 0, 1, 0, 0, 1, 0, 1, 0, 0]) (digest_narrow_Eok K) (digest_narrow_Rok K) rfl (Orc.nil _ _ _) (by kernel_rfl) (fun _ _ => by kernel_rfl) (fun _ _ _ => by kernel_rfl) n
noncomputable def digest_narrow_l2_se (K : Nat) : SE := stmtN [(0, .ptr), (1, .sl), (4, .addr), (7, .int .i64)] [] [(7, 10), (66, 107)] (fun x w => digest_narrow_l2 K K x.1 x.2.1 x.2.2.1 x.2.2.2.1 w)
theorem digest_narrow_l2_se_ok (K : Nat) (R : Rg) (h : subRB [(7, 10), (66, 107)] R = true) : (digest_narrow_l2_se K).Ok prog R (.block 4 (.loop (cd (bodyOf f113) [1, 0, 0, 1, 0, 0, 1, 0, 1, 0, 0]))) := stmtN_ok (Li := [(0, .ptr), (1, .sl), (4, .addr), (7, .int .i64)]) (Lo := []) (S := (fun x w => digest_narrow_l2 K K x.1 x.2.1 x.2.2.1 x.2.2.2.1 w)) (digest_narrow_l2_ok K K) (subR_of h)
theorem digest_narrow_l3_ok (K : Nat) (n : Nat) : StmtNOk prog [(0, .ptr), (1, .sl), (4, .addr), (10, .addr), (107, .int .i64)] [] [(11, 12), (107, 119)] ((fun n x w => digest_narrow_l3 K n x.1 x.2.1 x.2.2.1 x.2.2.2.1 x.2.2.2.2.1 w) n) (.block 6 (.loop (cd (bodyOf f113) [1, 0, 0, 1, 0, 0, 1, 1, 1, 0, 1, 0, 0]))) :=
    mk_loopN (O := tabL []) (root := (bodyOf f113)) (π := [1, 0, 0, 1, 0, 0, 1, 1, 1, 0, 1, 0, 0]) (id := 6) (Li := [(0, .ptr), (1, .sl), (4, .addr), (10, .addr), (107, .int .i64)]) (Lo := []) (S := (fun n x w => digest_narrow_l3 K n x.1 x.2.1 x.2.2.1 x.2.2.2.1 x.2.2.2.2.1 w)) (body := cd (bodyOf f113) [1, 0, 0, 1, 0, 0, 1, 1, 1, 0, 1, 0, 0]) (digest_narrow_Eok K) (digest_narrow_Rok K) rfl (Orc.nil _ _ _) (by kernel_rfl) (fun _ _ => by kernel_rfl) (fun _ _ _ => by kernel_rfl) n
noncomputable def digest_narrow_l3_se (K : Nat) : SE := stmtN [(0, .ptr), (1, .sl), (4, .addr), (10, .addr), (107, .int .i64)] [] [(11, 12), (107, 119)] (fun x w => digest_narrow_l3 K K x.1 x.2.1 x.2.2.1 x.2.2.2.1 x.2.2.2.2.1 w)
theorem digest_narrow_l3_se_ok (K : Nat) (R : Rg) (h : subRB [(11, 12), (107, 119)] R = true) : (digest_narrow_l3_se K).Ok prog R (.block 6 (.loop (cd (bodyOf f113) [1, 0, 0, 1, 0, 0, 1, 1, 1, 0, 1, 0, 0]))) := stmtN_ok (Li := [(0, .ptr), (1, .sl), (4, .addr), (10, .addr), (107, .int .i64)]) (Lo := []) (S := (fun x w => digest_narrow_l3 K K x.1 x.2.1 x.2.2.1 x.2.2.2.1 x.2.2.2.2.1 w)) (digest_narrow_l3_ok K K) (subR_of h)
theorem digest_narrow_l4_ok (K : Nat) (n : Nat) : StmtNOk prog [(0, .ptr), (1, .sl), (4, .addr), (10, .addr), (12, .int .u32), (13, .int .u32), (14, .int .u32), (15, .int .u32), (16, .int .u32), (17, .int .u32), (18, .int .u32), (19, .int .u32), (135, .int .i64)] [(12, .int .u32), (13, .int .u32), (14, .int .u32), (15, .int .u32), (16, .int .u32), (17, .int .u32), (18, .int .u32), (19, .int .u32)] [(12, 24), (135, 201)] ((fun n x w => digest_narrow_l4 K n x.1 x.2.1 x.2.2.1 x.2.2.2.1 x.2.2.2.2.1 x.2.2.2.2.2.1 x.2.2.2.2.2.2.1 x.2.2.2.2.2.2.2.1 x.2.2.2.2.2.2.2.2.1 x.2.2.2.2.2.2.2.2.2.1 x.2.2.2.2.2.2.2.2.2.2.1 x.2.2.2.2.2.2.2.2.2.2.2.1 x.2.2.2.2.2.2.2.2.2.2.2.2.1 w) n) (.block 8 (.loop (cd (bodyOf f113) [1, 0, 0, 1, 0, 0, 1, 1, 1, 1, 1, 0, 1, 0, 0]))) :=
    mk_loopN (O := tabL []) (root := (bodyOf f113)) (π := [1, 0, 0, 1, 0, 0, 1, 1, 1, 1, 1, 0, 1, 0, 0]) (id := 8) (Li := [(0, .ptr), (1, .sl), (4, .addr), (10, .addr), (12, .int .u32), (13, .int .u32), (14, .int .u32), (15, .int .u32), (16, .int .u32), (17, .int .u32), (18, .int .u32), (19, .int .u32), (135, .int .i64)]) (Lo := [(12, .int .u32), (13, .int .u32), (14, .int .u32), (15, .int .u32), (16, .int .u32), (17, .int .u32), (18, .int .u32), (19, .int .u32)]) (S := (fun n x w => digest_narrow_l4 K n x.1 x.2.1 x.2.2.1 x.2.2.2.1 x.2.2.2.2.1 x.2.2.2.2.2.1 x.2.2.2.2.2.2.1 x.2.2.2.2.2.2.2.1 x.2.2.2.2.2.2.2.2.1 x.2.2.2.2.2.2.2.2.2.1 x.2.2.2.2.2.2.2.2.2.2.1 x.2.2.2.2.2.2.2.2.2.2.2.1 x.2.2.2.2.2.2.2.2.2.2.2.2.1 w)) (body := cd (bodyOf f113) [1, 0, 0, 1, 0, 0, 1, 1, 1, 1, 1, 0, 1, 0, 0]) (digest_narrow_Eok K) (digest_narrow_Rok K) rfl (Orc.nil _ _ _) (by kernel_rfl) (fun _ _ => by kernel_rfl) (fun _ _ _ => by kernel_rfl) n
noncomputable def digest_narrow_l4_se (K : Nat) : SE := stmtN [(0, .ptr), (1, .sl), (4, .addr), (10, .addr), (12, .int .u32), (13, .int .u32), (14, .int .u32), (15, .int .u32), (16, .int .u32), (17, .int .u32), (18, .int .u32), (19, .int .u32), (135, .int .i64)] [(12, .int .u32), (13, .int .u32), (14, .int .u32), (15, .int .u32), (16, .int .u32), (17, .int .u32), (18, .int .u32), (19, .int .u32)] [(12, 24), (135, 201)] (fun x w => digest_narrow_l4 K K x.1 x.2.1 x.2.2.1 x.2.2.2.1 x.2.2.2.2.1 x.2.2.2.2.2.1 x.2.2.2.2.2.2.1 x.2.2.2.2.2.2.2.1 x.2.2.2.2.2.2.2.2.1 x.2.2.2.2.2.2.2.2.2.1 x.2.2.2.2.2.2.2.2.2.2.1 x.2.2.2.2.2.2.2.2.2.2.2.1 x.2.2.2.2.2.2.2.2.2.2.2.2.1 w)
theorem digest_narrow_l4_se_ok (K : Nat) (R : Rg) (h : subRB [(12, 24), (135, 201)] R = true) : (digest_narrow_l4_se K).Ok prog R (.block 8 (.loop (cd (bodyOf f113) [1, 0, 0, 1, 0, 0, 1, 1, 1, 1, 1, 0, 1, 0, 0]))) := stmtN_ok (Li := [(0, .ptr), (1, .sl), (4, .addr), (10, .addr), (12, .int .u32), (13, .int .u32), (14, .int .u32), (15, .int .u32), (16, .int .u32), (17, .int .u32), (18, .int .u32), (19, .int .u32), (135, .int .i64)]) (Lo := [(12, .int .u32), (13, .int .u32), (14, .int .u32), (15, .int .u32), (16, .int .u32), (17, .int .u32), (18, .int .u32), (19, .int .u32)]) (S := (fun x w => digest_narrow_l4 K K x.1 x.2.1 x.2.2.1 x.2.2.2.1 x.2.2.2.2.1 x.2.2.2.2.2.1 x.2.2.2.2.2.2.1 x.2.2.2.2.2.2.2.1 x.2.2.2.2.2.2.2.2.1 x.2.2.2.2.2.2.2.2.2.1 x.2.2.2.2.2.2.2.2.2.2.1 x.2.2.2.2.2.2.2.2.2.2.2.1 x.2.2.2.2.2.2.2.2.2.2.2.2.1 w)) (digest_narrow_l4_ok K K) (subR_of h)
theorem digest_narrow_l5_ok (K : Nat) (n : Nat) : StmtNOk prog [(0, .ptr), (1, .sl), (4, .addr), (10, .addr), (209, .agg), (210, .int .i64)] [] [(24, 26), (210, 225)] ((fun n x w => digest_narrow_l5 K n x.1 x.2.1 x.2.2.1 x.2.2.2.1 x.2.2.2.2.1 x.2.2.2.2.2.1 w) n) (.block 10 (.loop (cd (bodyOf f113) [1, 0, 0, 1, 0, 0, 1, 1, 1, 1, 1, 1, 1, 0, 0]))) :=
    mk_loopN (O := tabL []) (root := (bodyOf f113)) (π := [1, 0, 0, 1, 0, 0, 1, 1, 1, 1, 1, 1, 1, 0, 0]) (id := 10) (Li := [(0, .ptr), (1, .sl), (4, .addr), (10, .addr), (209, .agg), (210, .int .i64)]) (Lo := []) (S := (fun n x w => digest_narrow_l5 K n x.1 x.2.1 x.2.2.1 x.2.2.2.1 x.2.2.2.2.1 x.2.2.2.2.2.1 w)) (body := cd (bodyOf f113) [1, 0, 0, 1, 0, 0, 1, 1, 1, 1, 1, 1, 1, 0, 0]) (digest_narrow_Eok K) (digest_narrow_Rok K) rfl (Orc.nil _ _ _) (by kernel_rfl) (fun _ _ => by kernel_rfl) (fun _ _ _ => by kernel_rfl) n
noncomputable def digest_narrow_l5_se (K : Nat) : SE := stmtN [(0, .ptr), (1, .sl), (4, .addr), (10, .addr), (209, .agg), (210, .int .i64)] [] [(24, 26), (210, 225)] (fun x w => digest_narrow_l5 K K x.1 x.2.1 x.2.2.1 x.2.2.2.1 x.2.2.2.2.1 x.2.2.2.2.2.1 w)
theorem digest_narrow_l5_se_ok (K : Nat) (R : Rg) (h : subRB [(24, 26), (210, 225)] R = true) : (digest_narrow_l5_se K).Ok prog R (.block 10 (.loop (cd (bodyOf f113) [1, 0, 0, 1, 0, 0, 1, 1, 1, 1, 1, 1, 1, 0, 0]))) := stmtN_ok (Li := [(0, .ptr), (1, .sl), (4, .addr), (10, .addr), (209, .agg), (210, .int .i64)]) (Lo := []) (S := (fun x w => digest_narrow_l5 K K x.1 x.2.1 x.2.2.1 x.2.2.2.1 x.2.2.2.2.1 x.2.2.2.2.2.1 w)) (digest_narrow_l5_ok K K) (subR_of h)
theorem digest_narrow_l0_ok (K : Nat) (n : Nat) : StmtNOk prog [(0, .ptr), (1, .sl), (4, .addr)] [] [(1, 2), (5, 225)] ((fun n x w => digest_narrow_l0 K n x.1 x.2.1 x.2.2.1 w) n) (.block 0 (.loop (cd (bodyOf f113) [1, 0, 0]))) :=
    mk_loopN (O := tabL [([1, 0, 0, 1, 0, 0, 0, 1], digest_narrow_l1_se K), ([1, 0, 0, 1, 0, 0, 1, 0, 1], digest_narrow_l2_se K), ([1, 0, 0, 1, 0, 0, 1, 1, 1, 0, 1], digest_narrow_l3_se K), ([1, 0, 0, 1, 0, 0, 1, 1, 1, 1, 1, 0, 1], digest_narrow_l4_se K), ([1, 0, 0, 1, 0, 0, 1, 1, 1, 1, 1, 1, 1], digest_narrow_l5_se K)]) (root := (bodyOf f113)) (π := [1, 0, 0]) (id := 0) (Li := [(0, .ptr), (1, .sl), (4, .addr)]) (Lo := []) (S := (fun n x w => digest_narrow_l0 K n x.1 x.2.1 x.2.2.1 w)) (body := cd (bodyOf f113) [1, 0, 0]) (digest_narrow_Eok K) (digest_narrow_Rok K) rfl (Orc.cons (by kernel_rfl) (digest_narrow_l1_se_ok K [(1, 2), (5, 225)] (by kernel_rfl)) (Orc.cons (by kernel_rfl) (digest_narrow_l2_se_ok K [(1, 2), (5, 225)] (by kernel_rfl)) (Orc.cons (by kernel_rfl) (digest_narrow_l3_se_ok K [(1, 2), (5, 225)] (by kernel_rfl)) (Orc.cons (by kernel_rfl) (digest_narrow_l4_se_ok K [(1, 2), (5, 225)] (by kernel_rfl)) (Orc.cons (by kernel_rfl) (digest_narrow_l5_se_ok K [(1, 2), (5, 225)] (by kernel_rfl)) (Orc.nil _ _ _)))))) (by kernel_rfl) (fun _ _ => by kernel_rfl) (fun _ _ _ => by kernel_rfl) n
noncomputable def digest_narrow_l0_se (K : Nat) : SE := stmtN [(0, .ptr), (1, .sl), (4, .addr)] [] [(1, 2), (5, 225)] (fun x w => digest_narrow_l0 K K x.1 x.2.1 x.2.2.1 w)
theorem digest_narrow_l0_se_ok (K : Nat) (R : Rg) (h : subRB [(1, 2), (5, 225)] R = true) : (digest_narrow_l0_se K).Ok prog R (.block 0 (.loop (cd (bodyOf f113) [1, 0, 0]))) := stmtN_ok (Li := [(0, .ptr), (1, .sl), (4, .addr)]) (Lo := []) (S := (fun x w => digest_narrow_l0 K K x.1 x.2.1 x.2.2.1 w)) (digest_narrow_l0_ok K K) (subR_of h)
theorem digest_narrow_facts : FunFacts prog 113 f113 (bodyOf f113) [(0, .ptr), (1, .sl)] [(0, 225)] := ⟨func113, by kernel_rfl, by kernel_rfl, by kernel_rfl, by kernel_rfl, by kernel_rfl⟩
theorem digest_narrow_calls (K : Nat) (x : TT [(0, .ptr), (1, .sl)]) (w : World) (y : TR []) (w2 : World) (h : digest_narrow K x.1 x.2.1 w = some (y, w2)) : Calls prog 113 (encA [(0, .ptr), (1, .sl)] x).toArray w (fun e w3 => e = .returned (resV (encR [] y)) ∧ w3 = w2) :=
    mk_fun (O := tabL [([1], digest_narrow_l0_se K), ([1, 0, 0, 1, 0, 0, 0, 1], digest_narrow_l1_se K), ([1, 0, 0, 1, 0, 0, 1, 0, 1], digest_narrow_l2_se K), ([1, 0, 0, 1, 0, 0, 1, 1, 1, 0, 1], digest_narrow_l3_se K), ([1, 0, 0, 1, 0, 0, 1, 1, 1, 1, 1, 0, 1], digest_narrow_l4_se K), ([1, 0, 0, 1, 0, 0, 1, 1, 1, 1, 1, 1, 1], digest_narrow_l5_se K)]) (Lp := [(0, .ptr), (1, .sl)]) (Rt := []) (S := (fun x w => digest_narrow K x.1 x.2.1 w)) (digest_narrow_Eok K) (digest_narrow_Rok K) rfl digest_narrow_facts (Orc.cons (by kernel_rfl) (digest_narrow_l0_se_ok K [(0, 225)] (by kernel_rfl)) (Orc.cons (by kernel_rfl) (digest_narrow_l1_se_ok K [(0, 225)] (by kernel_rfl)) (Orc.cons (by kernel_rfl) (digest_narrow_l2_se_ok K [(0, 225)] (by kernel_rfl)) (Orc.cons (by kernel_rfl) (digest_narrow_l3_se_ok K [(0, 225)] (by kernel_rfl)) (Orc.cons (by kernel_rfl) (digest_narrow_l4_se_ok K [(0, 225)] (by kernel_rfl)) (Orc.cons (by kernel_rfl) (digest_narrow_l5_se_ok K [(0, 225)] (by kernel_rfl)) (Orc.nil _ _ _))))))) (fun _ _ => by kernel_rfl) x w y w2 h
noncomputable def digest_narrow_ce (K : Nat) : CE := funE [(0, .ptr), (1, .sl)] [] (fun x w => digest_narrow K x.1 x.2.1 w)
theorem digest_narrow_ok (K : Nat) : (digest_narrow_ce K).Ok prog 113 := funE_ok (Rt := []) (S := (fun x w => digest_narrow K x.1 x.2.1 w)) digest_narrow_facts fun x w y w2 h => digest_narrow_calls K x w y w2 h

noncomputable def digest_state_take_E (K : Nat) : List (Nat × CE) := [(113, digest_narrow_ce K), (114, digest_wide_ce K)]
theorem digest_state_take_Eok (K : Nat) : Env.Ok prog (tab (digest_state_take_E K)) := (Env.cons (digest_narrow_ok K) (Env.cons (digest_wide_ok K) (Env.nil _)))
noncomputable def digest_state_take_R (K : Nat) : List (Nat × RE) := []
theorem digest_state_take_Rok (K : Nat) : REnv.Ok prog (tab (digest_state_take_R K)) := (REnv.nil _)
noncomputable def digest_state_take_s0 (K : Nat) (s0 : Option Addr) (b1 : Sl) (at4 : Int) (a30 : Bool) (w : World) : Option ((Out (Sl × Unit) (Unit)) × World) :=
  if a30 = true then ((s0).bind fun p_9 =>
  (s0).bind fun p_10 =>
  (ldI .i64 ((p_10.add 0).add 1) w.drew).bind fun v_11 =>
  if (0 : Int) ≤ v_11 ∧ v_11 ≤ ((128 : Nat) : Int) then (if (0 : Int) ≤ at4 ∧ at4 ≤ (((Int.toNat (v_11)) : Nat) : Int) then (bnd (cpy prog 23 23 (.slice (sla (some (p_9.add 14)) (Int.toNat (at4)) 128 1) ((Int.toNat (v_11)) - (Int.toNat (at4))) (128 - (Int.toNat (at4)))) (.slice b1.a b1.len b1.cap) w.drew) fun s_12 w_13 =>
  if (0 : Int) ≤ s_12 ∧ s_12 ≤ ((b1.len : Nat) : Int) then ((s0).bind fun p_14 =>
  (ldI .i64 ((p_14.add 0).add 1) w_13).bind fun v_15 =>
  if (decide ((IntKind.i64.wrap (at4 + s_12)) < v_15)) = true then (some (.ret (), w_13)) else ((s0).bind fun p_16 =>
  (s0).bind fun p_17 =>
  (s0).bind fun p_18 =>
  (s0).bind fun p_19 =>
  (ldV ((p_16.add 0).add 3) w_13.drew).bind fun v_20 =>
  (ldI .i64 ((p_19.add 0).add 1) w_13.drew).bind fun v_21 =>
  if (0 : Int) ≤ v_21 ∧ v_21 ≤ ((128 : Nat) : Int) then (dyn (tab (digest_state_take_E K)) v_20 [(.pointer (some (p_17.add 6))), (.slice (sla (some (p_18.add 14)) 0 128 1) ((Int.toNat (v_21)) - 0) (128 - 0))] w_13.drew fun v_22 w_23 =>
  some (.norm (⟨(sla b1.a (Int.toNat (s_12)) b1.cap 1), (b1.len - (Int.toNat (s_12))), (b1.cap - (Int.toNat (s_12)))⟩, ()), w_23)) else none)) else none) else none) else none) else (some (.norm (b1, ()), w))
/-- (*coffer/digest.state).take -/
noncomputable def digest_state_take (K : Nat) (s0 : Option Addr) (b1 : Sl) (w : World) : Option ((Unit) × World) :=
  (s0).bind fun p_1 =>
  (s0).bind fun p_2 =>
  (ldI .u64 (p_1.add 5) w.drew).bind fun v_3 =>
  (ldI .i64 ((p_2.add 0).add 1) w.drew).bind fun v_4 =>
  if (IntKind.u64.wrap v_4) ≠ 0 then ((s0).bind fun p_5 =>
  (ldI .u64 (p_5.add 5) w.drew).bind fun v_6 =>
  (s0).bind fun p_7 =>
  (stC (p_7.add 5) (.int .u64 (IntKind.u64.wrap (v_6 + (IntKind.u64.wrap ((b1.len : Nat) : Int))))) w.drew).bind fun w_8 =>
  bnd (digest_state_take_s0 K s0 b1 (IntKind.i64.wrap (Int.tmod v_3 (IntKind.u64.wrap v_4))) (decide ((IntKind.i64.wrap (Int.tmod v_3 (IntKind.u64.wrap v_4))) > 0)) w_8) fun y_24 w_25 =>
  (match y_24 with
  | .norm z_26n => ((s0).bind fun p_27 =>
  (s0).bind fun p_28 =>
  (ldI .i64 ((p_27.add 0).add 1) w_25.drew).bind fun v_29 =>
  if v_29 ≠ 0 then ((ldI .i64 ((p_28.add 0).add 1) w_25.drew).bind fun v_30 =>
  (s0).bind fun p_31 =>
  (s0).bind fun p_32 =>
  if (0 : Int) ≤ (IntKind.i64.wrap ((IntKind.i64.wrap (Int.tdiv ((z_26n.1.len : Nat) : Int) v_29)) * v_30)) ∧ (IntKind.i64.wrap ((IntKind.i64.wrap (Int.tdiv ((z_26n.1.len : Nat) : Int) v_29)) * v_30)) ≤ ((z_26n.1.cap : Nat) : Int) then ((ldV ((p_31.add 0).add 3) w_25.drew.drew).bind fun v_33 =>
  dyn (tab (digest_state_take_E K)) v_33 [(.pointer (some (p_32.add 6))), (.slice (sla z_26n.1.a 0 z_26n.1.cap 1) ((Int.toNat ((IntKind.i64.wrap ((IntKind.i64.wrap (Int.tdiv ((z_26n.1.len : Nat) : Int) v_29)) * v_30)))) - 0) (z_26n.1.cap - 0))] w_25.drew.drew fun v_34 w_35 =>
  (s0).bind fun p_36 =>
  if (0 : Int) ≤ (IntKind.i64.wrap ((IntKind.i64.wrap (Int.tdiv ((z_26n.1.len : Nat) : Int) v_29)) * v_30)) ∧ (IntKind.i64.wrap ((IntKind.i64.wrap (Int.tdiv ((z_26n.1.len : Nat) : Int) v_29)) * v_30)) ≤ ((z_26n.1.len : Nat) : Int) then (bnd (cpy prog 23 23 (.slice (sla (some (p_36.add 14)) 0 128 1) (128 - 0) (128 - 0)) (.slice (sla z_26n.1.a (Int.toNat ((IntKind.i64.wrap ((IntKind.i64.wrap (Int.tdiv ((z_26n.1.len : Nat) : Int) v_29)) * v_30)))) z_26n.1.cap 1) (z_26n.1.len - (Int.toNat ((IntKind.i64.wrap ((IntKind.i64.wrap (Int.tdiv ((z_26n.1.len : Nat) : Int) v_29)) * v_30))))) (z_26n.1.cap - (Int.toNat ((IntKind.i64.wrap ((IntKind.i64.wrap (Int.tdiv ((z_26n.1.len : Nat) : Int) v_29)) * v_30)))))) w_35.drew) fun s_37 w_38 =>
  some ((), w_38)) else none) else none) else none)
  | .ret z_26r => (some ((), w_25)))) else none
theorem digest_state_take_s0_ok (K : Nat) : StmtOk prog [(0, .ptr), (1, .sl), (4, .int .i64), (30, .bool)] [(1, .sl)] [] [(1, 2), (5, 6), (31, 73)] (fun x w => digest_state_take_s0 K x.1 x.2.1 x.2.2.1 x.2.2.2.1 w) (cd (bodyOf f128) [1, 1, 0, 1]) :=
    mk_stmt (O := tabL []) (root := (bodyOf f128)) (π := [1, 1, 0, 1]) (Li := [(0, .ptr), (1, .sl), (4, .int .i64), (30, .bool)]) (Lo := [(1, .sl)]) (Lr := []) (S := (fun x w => digest_state_take_s0 K x.1 x.2.1 x.2.2.1 x.2.2.2.1 w)) (digest_state_take_Eok K) (digest_state_take_Rok K) rfl (Orc.nil _ _ _) (by kernel_rfl) (fun _ _ => by kernel_rfl)
noncomputable def digest_state_take_s0_se (K : Nat) : SE := stmt [(0, .ptr), (1, .sl), (4, .int .i64), (30, .bool)] [(1, .sl)] [] [(1, 2), (5, 6), (31, 73)] (fun x w => digest_state_take_s0 K x.1 x.2.1 x.2.2.1 x.2.2.2.1 w)
theorem digest_state_take_s0_se_ok (K : Nat) (R : Rg) (h : subRB [(1, 2), (5, 6), (31, 73)] R = true) : (digest_state_take_s0_se K).Ok prog R (cd (bodyOf f128) [1, 1, 0, 1]) := stmt_ok (Li := [(0, .ptr), (1, .sl), (4, .int .i64), (30, .bool)]) (Lo := [(1, .sl)]) (Lr := []) (S := (fun x w => digest_state_take_s0 K x.1 x.2.1 x.2.2.1 x.2.2.2.1 w)) (digest_state_take_s0_ok K) (subR_of h)
theorem digest_state_take_facts : FunFacts prog 128 f128 (bodyOf f128) [(0, .ptr), (1, .sl)] [(0, 107)] := ⟨func128, by kernel_rfl, by kernel_rfl, by kernel_rfl, by kernel_rfl, by kernel_rfl⟩
theorem digest_state_take_calls (K : Nat) (x : TT [(0, .ptr), (1, .sl)]) (w : World) (y : TR []) (w2 : World) (h : digest_state_take K x.1 x.2.1 w = some (y, w2)) : Calls prog 128 (encA [(0, .ptr), (1, .sl)] x).toArray w (fun e w3 => e = .returned (resV (encR [] y)) ∧ w3 = w2) :=
    mk_fun (O := tabL [([1, 1, 0, 1], digest_state_take_s0_se K)]) (Lp := [(0, .ptr), (1, .sl)]) (Rt := []) (S := (fun x w => digest_state_take K x.1 x.2.1 w)) (digest_state_take_Eok K) (digest_state_take_Rok K) rfl digest_state_take_facts (Orc.cons (by kernel_rfl) (digest_state_take_s0_se_ok K [(0, 107)] (by kernel_rfl)) (Orc.nil _ _ _)) (fun _ _ => by kernel_rfl) x w y w2 h
noncomputable def digest_state_take_ce (K : Nat) : CE := funE [(0, .ptr), (1, .sl)] [] (fun x w => digest_state_take K x.1 x.2.1 w)
theorem digest_state_take_ok (K : Nat) : (digest_state_take_ce K).Ok prog 128 := funE_ok (Rt := []) (S := (fun x w => digest_state_take K x.1 x.2.1 w)) digest_state_take_facts fun x w y w2 h => digest_state_take_calls K x w y w2 h

noncomputable def digest_Stream_Write_E (K : Nat) : List (Nat × CE) := [(128, digest_state_take_ce K)]
theorem digest_Stream_Write_Eok (K : Nat) : Env.Ok prog (tab (digest_Stream_Write_E K)) := (Env.cons (digest_state_take_ok K) (Env.nil _))
noncomputable def digest_Stream_Write_R (K : Nat) : List (Nat × RE) := [(127, digest_total_re K)]
theorem digest_Stream_Write_Rok (K : Nat) : REnv.Ok prog (tab (digest_Stream_Write_R K)) := (REnv.cons (digest_total_ok K) (REnv.nil _))
noncomputable def digest_Stream_Write_l0_b (K : Nat) (rec : Option Addr → Sl → Int → Int → World → Option ((Unit) × World)) (s0 : Option Addr) (a19 : Sl) (a20 : Int) (a21 : Int) (w : World) : Option ((Unit) × World) :=
  if (decide (a21 < a20)) = true then ((a19.a).bind fun p_4 =>
  if (0 : Int) ≤ a21 ∧ a21 < ((a19.len : Nat) : Int) then ((ldS (p_4.add ((Int.toNat a21) * 1)) w).bind fun v_5 =>
  (s0).bind fun p_6 =>
  bnd (digest_state_take K (some (p_6.add 0)) v_5 w) fun r_7 w_8 =>
  rec s0 a19 a20 (IntKind.i64.wrap (a21 + 1)) w_8) else none) else (some ((), w))
noncomputable def digest_Stream_Write_l0 (K : Nat) (n : Nat) : Option Addr → Sl → Int → Int → World → Option ((Unit) × World) := iter (fun _ _ _ _ _ => none) (digest_Stream_Write_l0_b K) n
/-- (*coffer/digest.Stream).Write -/
noncomputable def digest_Stream_Write (K : Nat) (s0 : Option Addr) (parts1 : Sl) (w : World) : Option ((Int × Unit) × World) :=
  if s0.isNone = true then (some ((1, ()), w)) else ((s0).bind fun p_1 =>
  (ldI .u64 ((p_1.add 0).add 5) w.drew).bind fun v_2 =>
  (digest_total K parts1 w.drew).bind fun r_3 =>
  if (decide ((IntKind.u64.wrap (v_2 + (IntKind.u64.wrap r_3.1))) > 33554432)) = true then (some ((4, ()), w.drew)) else (bnd (digest_Stream_Write_l0 K K s0 parts1 ((parts1.len : Nat) : Int) 0 w.drew) fun y_9 w_10 =>
  some ((0, ()), w_10)))
theorem digest_Stream_Write_l0_ok (K : Nat) (n : Nat) : StmtNOk prog [(0, .ptr), (19, .sl), (20, .int .i64), (21, .int .i64)] [] [(6, 7), (21, 31)] ((fun n x w => digest_Stream_Write_l0 K n x.1 x.2.1 x.2.2.1 x.2.2.2.1 w) n) (.block 0 (.loop (cd (bodyOf f106) [1, 1, 1, 0, 1, 0, 0]))) :=
    mk_loopN (O := tabL []) (root := (bodyOf f106)) (π := [1, 1, 1, 0, 1, 0, 0]) (id := 0) (Li := [(0, .ptr), (19, .sl), (20, .int .i64), (21, .int .i64)]) (Lo := []) (S := (fun n x w => digest_Stream_Write_l0 K n x.1 x.2.1 x.2.2.1 x.2.2.2.1 w)) (body := cd (bodyOf f106) [1, 1, 1, 0, 1, 0, 0]) (digest_Stream_Write_Eok K) (digest_Stream_Write_Rok K) rfl (Orc.nil _ _ _) (by kernel_rfl) (fun _ _ => by kernel_rfl) (fun _ _ _ => by kernel_rfl) n
noncomputable def digest_Stream_Write_l0_se (K : Nat) : SE := stmtN [(0, .ptr), (19, .sl), (20, .int .i64), (21, .int .i64)] [] [(6, 7), (21, 31)] (fun x w => digest_Stream_Write_l0 K K x.1 x.2.1 x.2.2.1 x.2.2.2.1 w)
theorem digest_Stream_Write_l0_se_ok (K : Nat) (R : Rg) (h : subRB [(6, 7), (21, 31)] R = true) : (digest_Stream_Write_l0_se K).Ok prog R (.block 0 (.loop (cd (bodyOf f106) [1, 1, 1, 0, 1, 0, 0]))) := stmtN_ok (Li := [(0, .ptr), (19, .sl), (20, .int .i64), (21, .int .i64)]) (Lo := []) (S := (fun x w => digest_Stream_Write_l0 K K x.1 x.2.1 x.2.2.1 x.2.2.2.1 w)) (digest_Stream_Write_l0_ok K K) (subR_of h)
theorem digest_Stream_Write_facts : FunFacts prog 106 f106 (bodyOf f106) [(0, .ptr), (1, .sl)] [(0, 31)] := ⟨func106, by kernel_rfl, by kernel_rfl, by kernel_rfl, by kernel_rfl, by kernel_rfl⟩
theorem digest_Stream_Write_calls (K : Nat) (x : TT [(0, .ptr), (1, .sl)]) (w : World) (y : TR [.int .i64]) (w2 : World) (h : digest_Stream_Write K x.1 x.2.1 w = some (y, w2)) : Calls prog 106 (encA [(0, .ptr), (1, .sl)] x).toArray w (fun e w3 => e = .returned (resV (encR [.int .i64] y)) ∧ w3 = w2) :=
    mk_fun (O := tabL [([1, 1, 1, 0, 1], digest_Stream_Write_l0_se K)]) (Lp := [(0, .ptr), (1, .sl)]) (Rt := [.int .i64]) (S := (fun x w => digest_Stream_Write K x.1 x.2.1 w)) (digest_Stream_Write_Eok K) (digest_Stream_Write_Rok K) rfl digest_Stream_Write_facts (Orc.cons (by kernel_rfl) (digest_Stream_Write_l0_se_ok K [(0, 31)] (by kernel_rfl)) (Orc.nil _ _ _)) (fun _ _ => by kernel_rfl) x w y w2 h
noncomputable def digest_Stream_Write_ce (K : Nat) : CE := funE [(0, .ptr), (1, .sl)] [.int .i64] (fun x w => digest_Stream_Write K x.1 x.2.1 w)
theorem digest_Stream_Write_ok (K : Nat) : (digest_Stream_Write_ce K).Ok prog 106 := funE_ok (Rt := [.int .i64]) (S := (fun x w => digest_Stream_Write K x.1 x.2.1 w)) digest_Stream_Write_facts fun x w y w2 h => digest_Stream_Write_calls K x w y w2 h

end Go.Sh

/- What functions of the program do, as Lean functions; that the machine does just that. Printed by shal.py, a program of this claim's writer. -/
set_option maxRecDepth 100000
set_option linter.unusedVariables false
namespace Go.Sh
open Go.Fw Go.Proofs.Tryd

noncomputable def digest_big_E (K : Nat) : List (Nat × CE) := []
theorem digest_big_Eok (K : Nat) : Env.Ok prog (tab (digest_big_E K)) := (Env.nil _)
noncomputable def digest_big_R (K : Nat) : List (Nat × RE) := []
theorem digest_big_Rok (K : Nat) : REnv.Ok prog (tab (digest_big_R K)) := (REnv.nil _)
noncomputable def digest_big_l0_b (K : Nat) (rec : Sl → Int → Int → World → Option ((Sl × Unit) × World)) (out0 : Sl) (x1 : Int) (i7 : Int) (w : World) : Option ((Sl × Unit) × World) :=
  if (decide (i7 ≥ 0)) = true then (if (0 : Int) ≤ (IntKind.i64.wrap (8 * i7)) then (bnd (bldS prog 23 1 #[(0, (.int .u8 (IntKind.u8.wrap (Int.fdiv x1 (2 ^ (min (Int.toNat (IntKind.i64.wrap (8 * i7))) IntKind.u64.bits))))))] w) fun s_1 w_2 =>
  bnd (apd prog 23 23 (.slice out0.a out0.len out0.cap) (.slice s_1.a s_1.len s_1.cap) w_2) fun s_3 w_4 =>
  rec s_3 x1 (IntKind.i64.wrap (i7 - 1)) w_4) else none) else (some ((out0, ()), w))
noncomputable def digest_big_l0 (K : Nat) (n : Nat) : Sl → Int → Int → World → Option ((Sl × Unit) × World) := iter (fun _ _ _ _ => none) (digest_big_l0_b K) n
/-- coffer/digest.big -/
noncomputable def digest_big (K : Nat) (out0 : Sl) (x1 : Int) (n2 : Int) (w : World) : Option ((Sl × Unit) × World) :=
  bnd (digest_big_l0 K K out0 x1 (IntKind.i64.wrap (n2 - 1)) w) fun y_5 w_6 =>
  some ((y_5.1, ()), w_6)
theorem digest_big_l0_ok (K : Nat) (n : Nat) : StmtNOk prog [(0, .sl), (1, .int .u64), (7, .int .i64)] [(0, .sl)] [(0, 1), (7, 8), (10, 22)] ((fun n x w => digest_big_l0 K n x.1 x.2.1 x.2.2.1 w) n) (.block 0 (.loop (cd (bodyOf f137) [1, 0, 1, 0, 0]))) :=
    mk_loopN (O := tabL []) (root := (bodyOf f137)) (π := [1, 0, 1, 0, 0]) (id := 0) (Li := [(0, .sl), (1, .int .u64), (7, .int .i64)]) (Lo := [(0, .sl)]) (S := (fun n x w => digest_big_l0 K n x.1 x.2.1 x.2.2.1 w)) (body := cd (bodyOf f137) [1, 0, 1, 0, 0]) (digest_big_Eok K) (digest_big_Rok K) rfl (Orc.nil _ _ _) (by kernel_rfl) (fun _ _ => by kernel_rfl) (fun _ _ _ => by kernel_rfl) n
noncomputable def digest_big_l0_se (K : Nat) : SE := stmtN [(0, .sl), (1, .int .u64), (7, .int .i64)] [(0, .sl)] [(0, 1), (7, 8), (10, 22)] (fun x w => digest_big_l0 K K x.1 x.2.1 x.2.2.1 w)
theorem digest_big_l0_se_ok (K : Nat) (R : Rg) (h : subRB [(0, 1), (7, 8), (10, 22)] R = true) : (digest_big_l0_se K).Ok prog R (.block 0 (.loop (cd (bodyOf f137) [1, 0, 1, 0, 0]))) := stmtN_ok (Li := [(0, .sl), (1, .int .u64), (7, .int .i64)]) (Lo := [(0, .sl)]) (S := (fun x w => digest_big_l0 K K x.1 x.2.1 x.2.2.1 w)) (digest_big_l0_ok K K) (subR_of h)
theorem digest_big_facts : FunFacts prog 137 f137 (bodyOf f137) [(0, .sl), (1, .int .u64), (2, .int .i64)] [(0, 23)] := ⟨func137, by kernel_rfl, by kernel_rfl, by kernel_rfl, by kernel_rfl, by kernel_rfl⟩
theorem digest_big_calls (K : Nat) (x : TT [(0, .sl), (1, .int .u64), (2, .int .i64)]) (w : World) (y : TR [.sl]) (w2 : World) (h : digest_big K x.1 x.2.1 x.2.2.1 w = some (y, w2)) : Calls prog 137 (encA [(0, .sl), (1, .int .u64), (2, .int .i64)] x).toArray w (fun e w3 => e = .returned (resV (encR [.sl] y)) ∧ w3 = w2) :=
    mk_fun (O := tabL [([1, 0, 1], digest_big_l0_se K)]) (Lp := [(0, .sl), (1, .int .u64), (2, .int .i64)]) (Rt := [.sl]) (S := (fun x w => digest_big K x.1 x.2.1 x.2.2.1 w)) (digest_big_Eok K) (digest_big_Rok K) rfl digest_big_facts (Orc.cons (by kernel_rfl) (digest_big_l0_se_ok K [(0, 23)] (by kernel_rfl)) (Orc.nil _ _ _)) (fun _ _ => by kernel_rfl) x w y w2 h
noncomputable def digest_big_ce (K : Nat) : CE := funE [(0, .sl), (1, .int .u64), (2, .int .i64)] [.sl] (fun x w => digest_big K x.1 x.2.1 x.2.2.1 w)
theorem digest_big_ok (K : Nat) : (digest_big_ce K).Ok prog 137 := funE_ok (Rt := [.sl]) (S := (fun x w => digest_big K x.1 x.2.1 x.2.2.1 w)) digest_big_facts fun x w y w2 h => digest_big_calls K x w y w2 h

noncomputable def digest_state_end_E (K : Nat) : List (Nat × CE) := [(128, digest_state_take_ce K), (137, digest_big_ce K)]
theorem digest_state_end_Eok (K : Nat) : Env.Ok prog (tab (digest_state_end_E K)) := (Env.cons (digest_state_take_ok K) (Env.cons (digest_big_ok K) (Env.nil _)))
noncomputable def digest_state_end_R (K : Nat) : List (Nat × RE) := []
theorem digest_state_end_Rok (K : Nat) : REnv.Ok prog (tab (digest_state_end_R K)) := (REnv.nil _)
noncomputable def digest_state_end_l0_b (K : Nat) (rec : Addr → Int → Addr → Int → World → Option ((Int × Unit) × World)) (s1 : Addr) (bits3 : Int) (pad4 : Addr) (n5 : Int) (w : World) : Option ((Int × Unit) × World) :=
  (ldI .u64 (s1.add 5) w.drew).bind fun v_7 =>
  (ldI .i64 ((s1.add 0).add 1) w.drew).bind fun v_8 =>
  if (IntKind.u64.wrap v_8) ≠ 0 then ((ldI .i64 ((s1.add 0).add 2) w.drew).bind fun v_9 =>
  (ldI .i64 ((s1.add 0).add 1) w.drew).bind fun v_10 =>
  if v_10 ≠ 0 then (if ((Int.tmod (IntKind.i64.wrap ((IntKind.i64.wrap ((IntKind.i64.wrap (Int.tmod v_7 (IntKind.u64.wrap v_8))) + n5)) + (IntKind.i64.wrap (2 * v_9)))) v_10) != 0) = true then (rec s1 bits3 pad4 (IntKind.i64.wrap (n5 + 1)) w.drew) else (some ((n5, ()), w.drew))) else none) else none
noncomputable def digest_state_end_l0 (K : Nat) (n : Nat) : Addr → Int → Addr → Int → World → Option ((Int × Unit) × World) := iter (fun _ _ _ _ _ => none) (digest_state_end_l0_b K) n
noncomputable def digest_state_end_l1_b (K : Nat) (rec : Addr → Int → Addr → Int → Int → World → Option ((Unit) × World)) (s1 : Addr) (bits3 : Int) (pad4 : Addr) (n5 : Int) (a42 : Int) (w : World) : Option ((Unit) × World) :=
  if (decide (a42 < 8)) = true then (if (0 : Int) ≤ (IntKind.i64.wrap (8 * a42)) then (if (0 : Int) ≤ (IntKind.i64.wrap ((IntKind.i64.wrap (n5 - 1)) - a42)) ∧ (IntKind.i64.wrap ((IntKind.i64.wrap (n5 - 1)) - a42)) < ((256 : Nat) : Int) then ((stC (pad4.add ((Int.toNat (IntKind.i64.wrap ((IntKind.i64.wrap (n5 - 1)) - a42))) * 1)) (.int .u8 (IntKind.u8.wrap (Int.fdiv bits3 (2 ^ (min (Int.toNat (IntKind.i64.wrap (8 * a42))) IntKind.u64.bits))))) w).bind fun w_14 =>
  rec s1 bits3 pad4 n5 (IntKind.i64.wrap (a42 + 1)) w_14) else none) else none) else (some ((), w))
noncomputable def digest_state_end_l1 (K : Nat) (n : Nat) : Addr → Int → Addr → Int → Int → World → Option ((Unit) × World) := iter (fun _ _ _ _ _ _ => none) (digest_state_end_l1_b K) n
noncomputable def digest_state_end_l2_b (K : Nat) (rec : Addr → Sl → Array Value → Int → World → Option ((Sl × Unit) × World)) (s1 : Addr) (out7 : Sl) (a61 : Array Value) (a62 : Int) (w : World) : Option ((Sl × Unit) × World) :=
  if (decide (a62 < 8)) = true then (if (0 : Int) ≤ a62 ∧ a62 < ((8 : Nat) : Int) then ((a61[((Int.toNat a62) * 1)]?).bind fun v_22 =>
  (asI .u64 v_22).bind fun v_23 =>
  (ldI .i64 ((s1.add 0).add 2) w).bind fun v_24 =>
  bnd (digest_big K out7 v_23 v_24 w) fun r_25 w_26 =>
  rec s1 r_25.1 a61 (IntKind.i64.wrap (a62 + 1)) w_26) else none) else (some ((out7, ()), w))
noncomputable def digest_state_end_l2 (K : Nat) (n : Nat) : Addr → Sl → Array Value → Int → World → Option ((Sl × Unit) × World) := iter (fun _ _ _ _ _ => none) (digest_state_end_l2_b K) n
/-- (coffer/digest.state).end -/
noncomputable def digest_state_end (K : Nat) (s0 : Array Value) (w : World) : Option ((Sl × Unit) × World) :=
  bnd (newB s0 180 w) fun p_1 w_2 =>
  (ldI .u64 (p_1.add 5) w_2).bind fun v_3 =>
  bnd (newB z188 188 w_2) fun pad_4 w_5 =>
  (stC (pad_4.add (0 * 1)) (.int .u8 128) w_5).bind fun w_6 =>
  bnd (digest_state_end_l0 K K p_1 (IntKind.u64.wrap (v_3 * 8)) pad_4 1 w_6) fun y_11 w_12 =>
  (ldI .i64 ((p_1.add 0).add 2) w_12).bind fun v_13 =>
  bnd (digest_state_end_l1 K K p_1 (IntKind.u64.wrap (v_3 * 8)) pad_4 (IntKind.i64.wrap (y_11.1 + (IntKind.i64.wrap (2 * v_13)))) 0 w_12) fun y_15 w_16 =>
  if (0 : Int) ≤ (IntKind.i64.wrap (y_11.1 + (IntKind.i64.wrap (2 * v_13)))) ∧ (IntKind.i64.wrap (y_11.1 + (IntKind.i64.wrap (2 * v_13)))) ≤ ((256 : Nat) : Int) then (bnd (digest_state_take K (some p_1) ⟨(sla (some pad_4) 0 256 1), ((Int.toNat ((IntKind.i64.wrap (y_11.1 + (IntKind.i64.wrap (2 * v_13)))))) - 0), (256 - 0)⟩ w_16) fun r_17 w_18 =>
  bnd (mkS prog 23 (.int .i64 0) (.int .i64 64) w_18) fun s_19 w_20 =>
  (ldA 8 (p_1.add 6) w_20).bind fun v_21 =>
  bnd (digest_state_end_l2 K K p_1 s_19 v_21 0 w_20) fun y_27 w_28 =>
  (ldI .i64 ((p_1.add 0).add 0) w_28).bind fun v_29 =>
  (ldI .i64 ((p_1.add 0).add 0) w_28).bind fun v_30 =>
  if (0 : Int) ≤ v_30 ∧ v_30 ≤ ((y_27.1.cap : Nat) : Int) then (if (0 : Int) ≤ v_29 ∧ v_29 ≤ (((Int.toNat (v_30)) : Nat) : Int) then (some ((⟨(sla y_27.1.a 0 (Int.toNat (v_30)) 1), ((Int.toNat (v_29)) - 0), ((Int.toNat (v_30)) - 0)⟩, ()), w_28)) else none) else none) else none
theorem digest_state_end_l0_ok (K : Nat) (n : Nat) : StmtNOk prog [(1, .addr), (3, .int .u64), (4, .addr), (5, .int .i64)] [(5, .int .i64)] [(5, 6), (14, 36)] ((fun n x w => digest_state_end_l0 K n x.1 x.2.1 x.2.2.1 x.2.2.2.1 w) n) (.block 0 (.loop (cd (bodyOf f129) [1, 1, 1, 1, 1, 0, 0, 0]))) :=
    mk_loopN (O := tabL []) (root := (bodyOf f129)) (π := [1, 1, 1, 1, 1, 0, 0, 0]) (id := 0) (Li := [(1, .addr), (3, .int .u64), (4, .addr), (5, .int .i64)]) (Lo := [(5, .int .i64)]) (S := (fun n x w => digest_state_end_l0 K n x.1 x.2.1 x.2.2.1 x.2.2.2.1 w)) (body := cd (bodyOf f129) [1, 1, 1, 1, 1, 0, 0, 0]) (digest_state_end_Eok K) (digest_state_end_Rok K) rfl (Orc.nil _ _ _) (by kernel_rfl) (fun _ _ => by kernel_rfl) (fun _ _ _ => by kernel_rfl) n
noncomputable def digest_state_end_l0_se (K : Nat) : SE := stmtN [(1, .addr), (3, .int .u64), (4, .addr), (5, .int .i64)] [(5, .int .i64)] [(5, 6), (14, 36)] (fun x w => digest_state_end_l0 K K x.1 x.2.1 x.2.2.1 x.2.2.2.1 w)
theorem digest_state_end_l0_se_ok (K : Nat) (R : Rg) (h : subRB [(5, 6), (14, 36)] R = true) : (digest_state_end_l0_se K).Ok prog R (.block 0 (.loop (cd (bodyOf f129) [1, 1, 1, 1, 1, 0, 0, 0]))) := stmtN_ok (Li := [(1, .addr), (3, .int .u64), (4, .addr), (5, .int .i64)]) (Lo := [(5, .int .i64)]) (S := (fun x w => digest_state_end_l0 K K x.1 x.2.1 x.2.2.1 x.2.2.2.1 w)) (digest_state_end_l0_ok K K) (subR_of h)
theorem digest_state_end_l1_ok (K : Nat) (n : Nat) : StmtNOk prog [(1, .addr), (3, .int .u64), (4, .addr), (5, .int .i64), (42, .int .i64)] [] [(6, 7), (42, 56)] ((fun n x w => digest_state_end_l1 K n x.1 x.2.1 x.2.2.1 x.2.2.2.1 x.2.2.2.2.1 w) n) (.block 2 (.loop (cd (bodyOf f129) [1, 1, 1, 1, 1, 1, 1, 0, 1, 0, 0]))) :=
    mk_loopN (O := tabL []) (root := (bodyOf f129)) (π := [1, 1, 1, 1, 1, 1, 1, 0, 1, 0, 0]) (id := 2) (Li := [(1, .addr), (3, .int .u64), (4, .addr), (5, .int .i64), (42, .int .i64)]) (Lo := []) (S := (fun n x w => digest_state_end_l1 K n x.1 x.2.1 x.2.2.1 x.2.2.2.1 x.2.2.2.2.1 w)) (body := cd (bodyOf f129) [1, 1, 1, 1, 1, 1, 1, 0, 1, 0, 0]) (digest_state_end_Eok K) (digest_state_end_Rok K) rfl (Orc.nil _ _ _) (by kernel_rfl) (fun _ _ => by kernel_rfl) (fun _ _ _ => by kernel_rfl) n
noncomputable def digest_state_end_l1_se (K : Nat) : SE := stmtN [(1, .addr), (3, .int .u64), (4, .addr), (5, .int .i64), (42, .int .i64)] [] [(6, 7), (42, 56)] (fun x w => digest_state_end_l1 K K x.1 x.2.1 x.2.2.1 x.2.2.2.1 x.2.2.2.2.1 w)
theorem digest_state_end_l1_se_ok (K : Nat) (R : Rg) (h : subRB [(6, 7), (42, 56)] R = true) : (digest_state_end_l1_se K).Ok prog R (.block 2 (.loop (cd (bodyOf f129) [1, 1, 1, 1, 1, 1, 1, 0, 1, 0, 0]))) := stmtN_ok (Li := [(1, .addr), (3, .int .u64), (4, .addr), (5, .int .i64), (42, .int .i64)]) (Lo := []) (S := (fun x w => digest_state_end_l1 K K x.1 x.2.1 x.2.2.1 x.2.2.2.1 x.2.2.2.2.1 w)) (digest_state_end_l1_ok K K) (subR_of h)
theorem digest_state_end_l2_ok (K : Nat) (n : Nat) : StmtNOk prog [(1, .addr), (7, .sl), (61, .agg), (62, .int .i64)] [(7, .sl)] [(7, 8), (9, 10), (62, 72)] ((fun n x w => digest_state_end_l2 K n x.1 x.2.1 x.2.2.1 x.2.2.2.1 w) n) (.block 4 (.loop (cd (bodyOf f129) [1, 1, 1, 1, 1, 1, 1, 1, 1, 1, 0, 1, 0, 0]))) :=
    mk_loopN (O := tabL []) (root := (bodyOf f129)) (π := [1, 1, 1, 1, 1, 1, 1, 1, 1, 1, 0, 1, 0, 0]) (id := 4) (Li := [(1, .addr), (7, .sl), (61, .agg), (62, .int .i64)]) (Lo := [(7, .sl)]) (S := (fun n x w => digest_state_end_l2 K n x.1 x.2.1 x.2.2.1 x.2.2.2.1 w)) (body := cd (bodyOf f129) [1, 1, 1, 1, 1, 1, 1, 1, 1, 1, 0, 1, 0, 0]) (digest_state_end_Eok K) (digest_state_end_Rok K) rfl (Orc.nil _ _ _) (by kernel_rfl) (fun _ _ => by kernel_rfl) (fun _ _ _ => by kernel_rfl) n
noncomputable def digest_state_end_l2_se (K : Nat) : SE := stmtN [(1, .addr), (7, .sl), (61, .agg), (62, .int .i64)] [(7, .sl)] [(7, 8), (9, 10), (62, 72)] (fun x w => digest_state_end_l2 K K x.1 x.2.1 x.2.2.1 x.2.2.2.1 w)
theorem digest_state_end_l2_se_ok (K : Nat) (R : Rg) (h : subRB [(7, 8), (9, 10), (62, 72)] R = true) : (digest_state_end_l2_se K).Ok prog R (.block 4 (.loop (cd (bodyOf f129) [1, 1, 1, 1, 1, 1, 1, 1, 1, 1, 0, 1, 0, 0]))) := stmtN_ok (Li := [(1, .addr), (7, .sl), (61, .agg), (62, .int .i64)]) (Lo := [(7, .sl)]) (S := (fun x w => digest_state_end_l2 K K x.1 x.2.1 x.2.2.1 x.2.2.2.1 w)) (digest_state_end_l2_ok K K) (subR_of h)
theorem digest_state_end_facts : FunFacts prog 129 f129 (bodyOf f129) [(0, .agg)] [(0, 80)] := ⟨func129, by kernel_rfl, by kernel_rfl, by kernel_rfl, by kernel_rfl, by kernel_rfl⟩
theorem digest_state_end_calls (K : Nat) (x : TT [(0, .agg)]) (w : World) (y : TR [.sl]) (w2 : World) (h : digest_state_end K x.1 w = some (y, w2)) : Calls prog 129 (encA [(0, .agg)] x).toArray w (fun e w3 => e = .returned (resV (encR [.sl] y)) ∧ w3 = w2) :=
    mk_fun (O := tabL [([1, 1, 1, 1, 1, 0], digest_state_end_l0_se K), ([1, 1, 1, 1, 1, 1, 1, 0, 1], digest_state_end_l1_se K), ([1, 1, 1, 1, 1, 1, 1, 1, 1, 1, 0, 1], digest_state_end_l2_se K)]) (Lp := [(0, .agg)]) (Rt := [.sl]) (S := (fun x w => digest_state_end K x.1 w)) (digest_state_end_Eok K) (digest_state_end_Rok K) rfl digest_state_end_facts (Orc.cons (by kernel_rfl) (digest_state_end_l0_se_ok K [(0, 80)] (by kernel_rfl)) (Orc.cons (by kernel_rfl) (digest_state_end_l1_se_ok K [(0, 80)] (by kernel_rfl)) (Orc.cons (by kernel_rfl) (digest_state_end_l2_se_ok K [(0, 80)] (by kernel_rfl)) (Orc.nil _ _ _)))) (fun _ _ => by kernel_rfl) x w y w2 h
noncomputable def digest_state_end_ce (K : Nat) : CE := funE [(0, .agg)] [.sl] (fun x w => digest_state_end K x.1 w)
theorem digest_state_end_ok (K : Nat) : (digest_state_end_ce K).Ok prog 129 := funE_ok (Rt := [.sl]) (S := (fun x w => digest_state_end K x.1 w)) digest_state_end_facts fun x w y w2 h => digest_state_end_calls K x w y w2 h

noncomputable def digest_Stream_Sum_E (K : Nat) : List (Nat × CE) := [(129, digest_state_end_ce K)]
theorem digest_Stream_Sum_Eok (K : Nat) : Env.Ok prog (tab (digest_Stream_Sum_E K)) := (Env.cons (digest_state_end_ok K) (Env.nil _))
noncomputable def digest_Stream_Sum_R (K : Nat) : List (Nat × RE) := []
theorem digest_Stream_Sum_Rok (K : Nat) : REnv.Ok prog (tab (digest_Stream_Sum_R K)) := (REnv.nil _)
/-- (*coffer/digest.Stream).Sum -/
noncomputable def digest_Stream_Sum (K : Nat) (s0 : Option Addr) (w : World) : Option ((Sl × Unit) × World) :=
  if s0.isNone = true then (some ((⟨none, 0, 0⟩, ()), w)) else ((s0).bind fun p_1 =>
  (ldA 142 (p_1.add 0) w).bind fun v_2 =>
  bnd (digest_state_end K v_2 w) fun r_3 w_4 =>
  some ((r_3.1, ()), w_4))
theorem digest_Stream_Sum_facts : FunFacts prog 107 f107 (bodyOf f107) [(0, .ptr)] [(0, 10)] := ⟨func107, by kernel_rfl, by kernel_rfl, by kernel_rfl, by kernel_rfl, by kernel_rfl⟩
theorem digest_Stream_Sum_calls (K : Nat) (x : TT [(0, .ptr)]) (w : World) (y : TR [.sl]) (w2 : World) (h : digest_Stream_Sum K x.1 w = some (y, w2)) : Calls prog 107 (encA [(0, .ptr)] x).toArray w (fun e w3 => e = .returned (resV (encR [.sl] y)) ∧ w3 = w2) :=
    mk_fun (O := tabL []) (Lp := [(0, .ptr)]) (Rt := [.sl]) (S := (fun x w => digest_Stream_Sum K x.1 w)) (digest_Stream_Sum_Eok K) (digest_Stream_Sum_Rok K) rfl digest_Stream_Sum_facts (Orc.nil _ _ _) (fun _ _ => by kernel_rfl) x w y w2 h
noncomputable def digest_Stream_Sum_ce (K : Nat) : CE := funE [(0, .ptr)] [.sl] (fun x w => digest_Stream_Sum K x.1 w)
theorem digest_Stream_Sum_ok (K : Nat) : (digest_Stream_Sum_ce K).Ok prog 107 := funE_ok (Rt := [.sl]) (S := (fun x w => digest_Stream_Sum K x.1 w)) digest_Stream_Sum_facts fun x w y w2 h => digest_Stream_Sum_calls K x w y w2 h

noncomputable def digest_Sum_E (K : Nat) : List (Nat × CE) := [(105, digest_New_ce K), (106, digest_Stream_Write_ce K), (107, digest_Stream_Sum_ce K)]
theorem digest_Sum_Eok (K : Nat) : Env.Ok prog (tab (digest_Sum_E K)) := (Env.cons (digest_New_ok K) (Env.cons (digest_Stream_Write_ok K) (Env.cons (digest_Stream_Sum_ok K) (Env.nil _))))
noncomputable def digest_Sum_R (K : Nat) : List (Nat × RE) := []
theorem digest_Sum_Rok (K : Nat) : REnv.Ok prog (tab (digest_Sum_R K)) := (REnv.nil _)
noncomputable def digest_Sum_s0 (K : Nat) (parts1 : Sl) (s6 : Option Addr) (e7 : Int) (a14 : Bool) (w : World) : Option ((Int × Unit) × World) :=
  if a14 = true then (bnd (digest_Stream_Write K s6 parts1 w) fun r_3 w_4 =>
  some ((r_3.1, ()), w_4)) else (some ((e7, ()), w))
/-- coffer/digest.Sum -/
noncomputable def digest_Sum (K : Nat) (hash0 : Int) (parts1 : Sl) (w : World) : Option ((Sl × Int × Unit) × World) :=
  bnd (digest_New K hash0 w) fun r_1 w_2 =>
  bnd (digest_Sum_s0 K parts1 r_1.1 r_1.2.1 (r_1.2.1 == 0) w_2) fun y_5 w_6 =>
  if (y_5.1 != 0) = true then (some ((⟨none, 0, 0⟩, y_5.1, ()), w_6)) else (bnd (digest_Stream_Sum K r_1.1 w_6) fun r_7 w_8 =>
  some ((r_7.1, 0, ()), w_8))
theorem digest_Sum_s0_ok (K : Nat) : StmtNOk prog [(1, .sl), (6, .ptr), (7, .int .i64), (14, .bool)] [(7, .int .i64)] [(7, 8), (15, 18)] (fun x w => digest_Sum_s0 K x.1 x.2.1 x.2.2.1 x.2.2.2.1 w) (cd (bodyOf f79) [1, 1, 0, 1]) :=
    mk_stmtN (O := tabL []) (root := (bodyOf f79)) (π := [1, 1, 0, 1]) (Li := [(1, .sl), (6, .ptr), (7, .int .i64), (14, .bool)]) (Lo := [(7, .int .i64)]) (S := (fun x w => digest_Sum_s0 K x.1 x.2.1 x.2.2.1 x.2.2.2.1 w)) (digest_Sum_Eok K) (digest_Sum_Rok K) rfl (Orc.nil _ _ _) (by kernel_rfl) (fun _ _ => by kernel_rfl)
noncomputable def digest_Sum_s0_se (K : Nat) : SE := stmtN [(1, .sl), (6, .ptr), (7, .int .i64), (14, .bool)] [(7, .int .i64)] [(7, 8), (15, 18)] (fun x w => digest_Sum_s0 K x.1 x.2.1 x.2.2.1 x.2.2.2.1 w)
theorem digest_Sum_s0_se_ok (K : Nat) (R : Rg) (h : subRB [(7, 8), (15, 18)] R = true) : (digest_Sum_s0_se K).Ok prog R (cd (bodyOf f79) [1, 1, 0, 1]) := stmtN_ok (Li := [(1, .sl), (6, .ptr), (7, .int .i64), (14, .bool)]) (Lo := [(7, .int .i64)]) (S := (fun x w => digest_Sum_s0 K x.1 x.2.1 x.2.2.1 x.2.2.2.1 w)) (digest_Sum_s0_ok K) (subR_of h)
theorem digest_Sum_facts : FunFacts prog 79 f79 (bodyOf f79) [(0, .int .i64), (1, .sl)] [(0, 23)] := ⟨func79, by kernel_rfl, by kernel_rfl, by kernel_rfl, by kernel_rfl, by kernel_rfl⟩
theorem digest_Sum_calls (K : Nat) (x : TT [(0, .int .i64), (1, .sl)]) (w : World) (y : TR [.sl, .int .i64]) (w2 : World) (h : digest_Sum K x.1 x.2.1 w = some (y, w2)) : Calls prog 79 (encA [(0, .int .i64), (1, .sl)] x).toArray w (fun e w3 => e = .returned (resV (encR [.sl, .int .i64] y)) ∧ w3 = w2) :=
    mk_fun (O := tabL [([1, 1, 0, 1], digest_Sum_s0_se K)]) (Lp := [(0, .int .i64), (1, .sl)]) (Rt := [.sl, .int .i64]) (S := (fun x w => digest_Sum K x.1 x.2.1 w)) (digest_Sum_Eok K) (digest_Sum_Rok K) rfl digest_Sum_facts (Orc.cons (by kernel_rfl) (digest_Sum_s0_se_ok K [(0, 23)] (by kernel_rfl)) (Orc.nil _ _ _)) (fun _ _ => by kernel_rfl) x w y w2 h
noncomputable def digest_Sum_ce (K : Nat) : CE := funE [(0, .int .i64), (1, .sl)] [.sl, .int .i64] (fun x w => digest_Sum K x.1 x.2.1 w)
theorem digest_Sum_ok (K : Nat) : (digest_Sum_ce K).Ok prog 79 := funE_ok (Rt := [.sl, .int .i64]) (S := (fun x w => digest_Sum K x.1 x.2.1 w)) digest_Sum_facts fun x w y w2 h => digest_Sum_calls K x w y w2 h

noncomputable def slices_Clone_byte_byte_E : List (Nat × CE) := []
theorem slices_Clone_byte_byte_Eok : Env.Ok prog (tab (slices_Clone_byte_byte_E)) := (Env.nil _)
noncomputable def slices_Clone_byte_byte_R : List (Nat × RE) := []
theorem slices_Clone_byte_byte_Rok : REnv.Ok prog (tab (slices_Clone_byte_byte_R)) := (REnv.nil _)
/-- slices.Clone[[]byte,byte] -/
noncomputable def slices_Clone_byte_byte (s0 : Sl) (w : World) : Option ((Sl × Unit) × World) :=
  if s0.a.isNone = true then (some ((⟨none, 0, 0⟩, ()), w)) else (bnd (bldS prog 23 0 #[] w) fun s_1 w_2 =>
  bnd (apd prog 23 23 (.slice s_1.a s_1.len s_1.cap) (.slice s0.a s0.len s0.cap) w_2) fun s_3 w_4 =>
  some ((s_3, ()), w_4))
theorem slices_Clone_byte_byte_facts : FunFacts prog 80 f80 (bodyOf f80) [(0, .sl)] [(0, 8)] := ⟨func80, by kernel_rfl, by kernel_rfl, by kernel_rfl, by kernel_rfl, by kernel_rfl⟩
theorem slices_Clone_byte_byte_calls (x : TT [(0, .sl)]) (w : World) (y : TR [.sl]) (w2 : World) (h : slices_Clone_byte_byte x.1 w = some (y, w2)) : Calls prog 80 (encA [(0, .sl)] x).toArray w (fun e w3 => e = .returned (resV (encR [.sl] y)) ∧ w3 = w2) :=
    mk_fun (O := tabL []) (Lp := [(0, .sl)]) (Rt := [.sl]) (S := (fun x w => slices_Clone_byte_byte x.1 w)) (slices_Clone_byte_byte_Eok) (slices_Clone_byte_byte_Rok) rfl slices_Clone_byte_byte_facts (Orc.nil _ _ _) (fun _ _ => by kernel_rfl) x w y w2 h
noncomputable def slices_Clone_byte_byte_ce : CE := funE [(0, .sl)] [.sl] (fun x w => slices_Clone_byte_byte x.1 w)
theorem slices_Clone_byte_byte_ok : (slices_Clone_byte_byte_ce).Ok prog 80 := funE_ok (Rt := [.sl]) (S := (fun x w => slices_Clone_byte_byte x.1 w)) slices_Clone_byte_byte_facts fun x w y w2 h => slices_Clone_byte_byte_calls x w y w2 h

noncomputable def escrow_row_E (K : Nat) : List (Nat × CE) := [(79, digest_Sum_ce K), (80, slices_Clone_byte_byte_ce)]
theorem escrow_row_Eok (K : Nat) : Env.Ok prog (tab (escrow_row_E K)) := (Env.cons (digest_Sum_ok K) (Env.cons (slices_Clone_byte_byte_ok) (Env.nil _)))
noncomputable def escrow_row_R (K : Nat) : List (Nat × RE) := []
theorem escrow_row_Rok (K : Nat) : REnv.Ok prog (tab (escrow_row_R K)) := (REnv.nil _)
/-- coffer/escrow.row -/
noncomputable def escrow_row (K : Nat) (set0 : Int) (secret1 : Sl) (w : World) : Option ((Sl × Unit) × World) :=
  bnd (bldS prog 23 2 #[(0, (.int .u8 (IntKind.u8.wrap (Int.fdiv set0 (2 ^ 8))))), (1, (.int .u8 (IntKind.u8.wrap set0)))] w) fun s_1 w_2 =>
  bnd (bldS prog 67 2 #[(0, (.slice s_1.a s_1.len s_1.cap)), (1, (.slice secret1.a secret1.len secret1.cap))] w_2) fun s_3 w_4 =>
  bnd (digest_Sum K 256 s_3 w_4) fun r_5 w_6 =>
  if (0 : Int) ≤ 4 ∧ 4 ≤ ((r_5.1.cap : Nat) : Int) then (bnd (slices_Clone_byte_byte secret1 w_6.drew) fun r_7 w_8 =>
  bnd (apd prog 23 23 (.slice r_7.1.a r_7.1.len r_7.1.cap) (.slice (sla r_5.1.a 0 r_5.1.cap 1) (4 - 0) (r_5.1.cap - 0)) w_8) fun s_9 w_10 =>
  some ((s_9, ()), w_10)) else none
theorem escrow_row_facts : FunFacts prog 52 f52 (bodyOf f52) [(0, .int .u16), (1, .sl)] [(0, 24)] := ⟨func52, by kernel_rfl, by kernel_rfl, by kernel_rfl, by kernel_rfl, by kernel_rfl⟩
theorem escrow_row_calls (K : Nat) (x : TT [(0, .int .u16), (1, .sl)]) (w : World) (y : TR [.sl]) (w2 : World) (h : escrow_row K x.1 x.2.1 w = some (y, w2)) : Calls prog 52 (encA [(0, .int .u16), (1, .sl)] x).toArray w (fun e w3 => e = .returned (resV (encR [.sl] y)) ∧ w3 = w2) :=
    mk_fun (O := tabL []) (Lp := [(0, .int .u16), (1, .sl)]) (Rt := [.sl]) (S := (fun x w => escrow_row K x.1 x.2.1 w)) (escrow_row_Eok K) (escrow_row_Rok K) rfl escrow_row_facts (Orc.nil _ _ _) (fun _ _ => by kernel_rfl) x w y w2 h
noncomputable def escrow_row_ce (K : Nat) : CE := funE [(0, .int .u16), (1, .sl)] [.sl] (fun x w => escrow_row K x.1 x.2.1 w)
theorem escrow_row_ok (K : Nat) : (escrow_row_ce K).Ok prog 52 := funE_ok (Rt := [.sl]) (S := (fun x w => escrow_row K x.1 x.2.1 w)) escrow_row_facts fun x w y w2 h => escrow_row_calls K x w y w2 h

noncomputable def escrow_through_E : List (Nat × CE) := []
theorem escrow_through_Eok : Env.Ok prog (tab (escrow_through_E)) := (Env.nil _)
noncomputable def escrow_through_R : List (Nat × RE) := []
theorem escrow_through_Rok : REnv.Ok prog (tab (escrow_through_R)) := (REnv.nil _)
/-- coffer/escrow.through -/
noncomputable def escrow_through (coefficients0 : Sl) (w : World) : Option ((Value × Unit) × World) :=
  bnd (newB #[(.slice coefficients0.a coefficients0.len coefficients0.cap)] 23 w) fun p_1 w_2 =>
  some (((.func (.func 81) #[] #[(.pointer (some p_1))]), ()), w_2)
theorem escrow_through_facts : FunFacts prog 53 f53 (bodyOf f53) [(0, .sl)] [(0, 4)] := ⟨func53, by kernel_rfl, by kernel_rfl, by kernel_rfl, by kernel_rfl, by kernel_rfl⟩
theorem escrow_through_calls (x : TT [(0, .sl)]) (w : World) (y : TR [.val]) (w2 : World) (h : escrow_through x.1 w = some (y, w2)) : Calls prog 53 (encA [(0, .sl)] x).toArray w (fun e w3 => e = .returned (resV (encR [.val] y)) ∧ w3 = w2) :=
    mk_fun (O := tabL []) (Lp := [(0, .sl)]) (Rt := [.val]) (S := (fun x w => escrow_through x.1 w)) (escrow_through_Eok) (escrow_through_Rok) rfl escrow_through_facts (Orc.nil _ _ _) (fun _ _ => by kernel_rfl) x w y w2 h
noncomputable def escrow_through_ce : CE := funE [(0, .sl)] [.val] (fun x w => escrow_through x.1 w)
theorem escrow_through_ok : (escrow_through_ce).Ok prog 53 := funE_ok (Rt := [.val]) (S := (fun x w => escrow_through x.1 w)) escrow_through_facts fun x w y w2 h => escrow_through_calls x w y w2 h

noncomputable def rijndael_Times_R (K : Nat) : List (Nat × RE) := []
theorem rijndael_Times_Rok (K : Nat) : REnv.Ok prog (tab (rijndael_Times_R K)) := (REnv.nil _)
noncomputable def rijndael_Times_s1 (K : Nat) (a0 : Int) (p5 : Int) (a11 : Bool) : Option (Out (Int × Unit) (Int × Unit)) :=
  if a11 = true then (some (.norm ((bits .xor .u8 p5 a0), ()))) else (some (.norm (p5, ())))
noncomputable def rijndael_Times_l0_b (K : Nat) (rec : Int → Int → Int → Option (Out (Int × Unit) (Int × Unit))) (a0 : Int) (b1 : Int) (p5 : Int) : Option (Out (Int × Unit) (Int × Unit)) :=
  if (b1 != 0) = true then ((rijndael_Times_s1 K a0 p5 ((bits .and .u8 b1 1) != 0)).bind fun y_1 =>
  (match y_1 with
  | .norm z_2n => (if ((bits .and .u8 a0 128) != 0) = true then (rec (bits .xor .u8 (IntKind.u8.wrap (a0 * 2 ^ 1)) 27) (Int.fdiv b1 (2 ^ 1)) z_2n.1) else (rec (IntKind.u8.wrap (a0 * 2 ^ 1)) (Int.fdiv b1 (2 ^ 1)) z_2n.1))
  | .ret z_2r => (some (.ret (z_2r.1, ()))))) else (some (.norm (p5, ())))
noncomputable def rijndael_Times_l0 (K : Nat) (n : Nat) : Int → Int → Int → Option (Out (Int × Unit) (Int × Unit)) := iter (fun _ _ _ => none) (rijndael_Times_l0_b K) n
/-- coffer/rijndael.Times -/
noncomputable def rijndael_Times (K : Nat) (a0 : Int) (b1 : Int) : Option (Int × Unit) :=
  (rijndael_Times_l0 K K a0 b1 0).bind fun y_3 =>
  (match y_3 with
  | .norm z_4n => (some (z_4n.1, ()))
  | .ret z_4r => (some (z_4r.1, ())))
theorem rijndael_Times_s1_ok (K : Nat) : StmtQOk prog [(0, .int .u8), (5, .int .u8), (11, .bool)] [(5, .int .u8)] [(4, .int .u8)] [(5, 6), (12, 15)] (fun x w => rijndael_Times_s1 K x.1 x.2.1 x.2.2.1) (cd (bodyOf f61) [1, 1, 0, 0, 0, 1, 0, 0, 1]) :=
    mk_stmtQ (O := tabL []) (root := (bodyOf f61)) (π := [1, 1, 0, 0, 0, 1, 0, 0, 1]) (Li := [(0, .int .u8), (5, .int .u8), (11, .bool)]) (Lo := [(5, .int .u8)]) (Lr := [(4, .int .u8)]) (S := (fun x w => rijndael_Times_s1 K x.1 x.2.1 x.2.2.1)) (rijndael_Times_Rok K) (OrcQ.nil _ _ _) (by kernel_rfl) (fun _ _ => by kernel_rfl)
noncomputable def rijndael_Times_s1_se (K : Nat) : SQ := stmtQ [(0, .int .u8), (5, .int .u8), (11, .bool)] [(5, .int .u8)] [(4, .int .u8)] [(5, 6), (12, 15)] (fun x w => rijndael_Times_s1 K x.1 x.2.1 x.2.2.1)
theorem rijndael_Times_s1_se_ok (K : Nat) (R : Rg) (h : subRB [(5, 6), (12, 15)] R = true) : (rijndael_Times_s1_se K).Ok prog R (cd (bodyOf f61) [1, 1, 0, 0, 0, 1, 0, 0, 1]) := stmtQ_ok (Li := [(0, .int .u8), (5, .int .u8), (11, .bool)]) (Lo := [(5, .int .u8)]) (Lr := [(4, .int .u8)]) (S := (fun x w => rijndael_Times_s1 K x.1 x.2.1 x.2.2.1)) (rijndael_Times_s1_ok K) (subR_of h)
theorem rijndael_Times_l0_ok (K : Nat) (n : Nat) : StmtQOk prog [(0, .int .u8), (1, .int .u8), (5, .int .u8)] [(5, .int .u8)] [(4, .int .u8)] [(0, 2), (5, 25)] ((fun n x w => rijndael_Times_l0 K n x.1 x.2.1 x.2.2.1) n) (.block 0 (.loop (cd (bodyOf f61) [1, 1, 0, 0, 0]))) :=
    mk_loopQ (O := tabL [([1, 1, 0, 0, 0, 1, 0, 0, 1], rijndael_Times_s1_se K)]) (root := (bodyOf f61)) (π := [1, 1, 0, 0, 0]) (id := 0) (Li := [(0, .int .u8), (1, .int .u8), (5, .int .u8)]) (Lo := [(5, .int .u8)]) (Lr := [(4, .int .u8)]) (S := (fun n x w => rijndael_Times_l0 K n x.1 x.2.1 x.2.2.1)) (body := cd (bodyOf f61) [1, 1, 0, 0, 0]) (rijndael_Times_Rok K) (OrcQ.cons (by kernel_rfl) (rijndael_Times_s1_se_ok K [(0, 2), (5, 25)] (by kernel_rfl)) (OrcQ.nil _ _ _)) (by kernel_rfl) (fun _ _ => by kernel_rfl) (fun _ _ _ => by kernel_rfl) n
noncomputable def rijndael_Times_l0_se (K : Nat) : SQ := stmtQ [(0, .int .u8), (1, .int .u8), (5, .int .u8)] [(5, .int .u8)] [(4, .int .u8)] [(0, 2), (5, 25)] (fun x w => rijndael_Times_l0 K K x.1 x.2.1 x.2.2.1)
theorem rijndael_Times_l0_se_ok (K : Nat) (R : Rg) (h : subRB [(0, 2), (5, 25)] R = true) : (rijndael_Times_l0_se K).Ok prog R (.block 0 (.loop (cd (bodyOf f61) [1, 1, 0, 0, 0]))) := stmtQ_ok (Li := [(0, .int .u8), (1, .int .u8), (5, .int .u8)]) (Lo := [(5, .int .u8)]) (Lr := [(4, .int .u8)]) (S := (fun x w => rijndael_Times_l0 K K x.1 x.2.1 x.2.2.1)) (rijndael_Times_l0_ok K K) (subR_of h)
theorem rijndael_Times_facts : FunFacts prog 61 f61 (bodyOf f61) [(0, .int .u8), (1, .int .u8)] [(0, 26)] := ⟨func61, by kernel_rfl, by kernel_rfl, by kernel_rfl, by kernel_rfl, by kernel_rfl⟩
theorem rijndael_Times_calls (K : Nat) (x : TT [(0, .int .u8), (1, .int .u8)]) (w : World) (y : TR [.int .u8]) (h : rijndael_Times K x.1 x.2.1 = some y) : Calls prog 61 (encA [(0, .int .u8), (1, .int .u8)] x).toArray w (fun e w3 => e = .returned (resV (encR [.int .u8] y)) ∧ w3 = w) :=
    mk_funQ (O := tabL [([1, 1, 0], rijndael_Times_l0_se K), ([1, 1, 0, 0, 0, 1, 0, 0, 1], rijndael_Times_s1_se K)]) (Lp := [(0, .int .u8), (1, .int .u8)]) (Rt := [.int .u8]) (S := (fun x w => rijndael_Times K x.1 x.2.1)) (rijndael_Times_Rok K) rijndael_Times_facts (OrcQ.cons (by kernel_rfl) (rijndael_Times_l0_se_ok K [(0, 26)] (by kernel_rfl)) (OrcQ.cons (by kernel_rfl) (rijndael_Times_s1_se_ok K [(0, 26)] (by kernel_rfl)) (OrcQ.nil _ _ _))) (fun _ _ => by kernel_rfl) x w y h
noncomputable def rijndael_Times_re (K : Nat) : RE := funR [(0, .int .u8), (1, .int .u8)] [.int .u8] (fun x w => rijndael_Times K x.1 x.2.1)
theorem rijndael_Times_ok (K : Nat) : (rijndael_Times_re K).Ok prog 61 := funR_ok (Rt := [.int .u8]) (S := (fun x w => rijndael_Times K x.1 x.2.1)) rijndael_Times_facts fun x w y h => rijndael_Times_calls K x w y h

noncomputable def escrow_through_1_E (K : Nat) : List (Nat × CE) := []
theorem escrow_through_1_Eok (K : Nat) : Env.Ok prog (tab (escrow_through_1_E K)) := (Env.nil _)
noncomputable def escrow_through_1_R (K : Nat) : List (Nat × RE) := [(61, rijndael_Times_re K)]
theorem escrow_through_1_Rok (K : Nat) : REnv.Ok prog (tab (escrow_through_1_R K)) := (REnv.cons (rijndael_Times_ok K) (REnv.nil _))
noncomputable def escrow_through_1_l0_b (K : Nat) (rec : Int → Option Addr → Int → Int → World → Option ((Int × Unit) × World)) (x0 : Int) (a1 : Option Addr) (v4 : Int) (i5 : Int) (w : World) : Option ((Int × Unit) × World) :=
  if (decide (i5 ≥ 0)) = true then ((rijndael_Times K v4 x0).bind fun r_3 =>
  (a1).bind fun p_4 =>
  (ldS p_4 w.drew).bind fun v_5 =>
  (v_5.a).bind fun p_6 =>
  if (0 : Int) ≤ i5 ∧ i5 < ((v_5.len : Nat) : Int) then ((ldI .u8 (p_6.add ((Int.toNat i5) * 1)) w.drew).bind fun v_7 =>
  rec x0 a1 (bits .xor .u8 r_3.1 v_7) (IntKind.i64.wrap (i5 - 1)) w.drew) else none) else (some ((v4, ()), w))
noncomputable def escrow_through_1_l0 (K : Nat) (n : Nat) : Int → Option Addr → Int → Int → World → Option ((Int × Unit) × World) := iter (fun _ _ _ _ _ => none) (escrow_through_1_l0_b K) n
/-- coffer/escrow.through$1 -/
noncomputable def escrow_through_1 (K : Nat) (x0 : Int) (a1 : Option Addr) (w : World) : Option ((Int × Unit) × World) :=
  (a1).bind fun p_1 =>
  (ldS p_1 w).bind fun v_2 =>
  bnd (escrow_through_1_l0 K K x0 a1 0 (IntKind.i64.wrap (((v_2.len : Nat) : Int) - 1)) w) fun y_8 w_9 =>
  some ((y_8.1, ()), w_9)
theorem escrow_through_1_l0_ok (K : Nat) (n : Nat) : StmtNOk prog [(0, .int .u8), (1, .ptr), (4, .int .u8), (5, .int .i64)] [(4, .int .u8)] [(4, 6), (9, 21)] ((fun n x w => escrow_through_1_l0 K n x.1 x.2.1 x.2.2.1 x.2.2.2.1 w) n) (.block 0 (.loop (cd (bodyOf f81) [1, 1, 0, 1, 0, 0]))) :=
    mk_loopN (O := tabL []) (root := (bodyOf f81)) (π := [1, 1, 0, 1, 0, 0]) (id := 0) (Li := [(0, .int .u8), (1, .ptr), (4, .int .u8), (5, .int .i64)]) (Lo := [(4, .int .u8)]) (S := (fun n x w => escrow_through_1_l0 K n x.1 x.2.1 x.2.2.1 x.2.2.2.1 w)) (body := cd (bodyOf f81) [1, 1, 0, 1, 0, 0]) (escrow_through_1_Eok K) (escrow_through_1_Rok K) rfl (Orc.nil _ _ _) (by kernel_rfl) (fun _ _ => by kernel_rfl) (fun _ _ _ => by kernel_rfl) n
noncomputable def escrow_through_1_l0_se (K : Nat) : SE := stmtN [(0, .int .u8), (1, .ptr), (4, .int .u8), (5, .int .i64)] [(4, .int .u8)] [(4, 6), (9, 21)] (fun x w => escrow_through_1_l0 K K x.1 x.2.1 x.2.2.1 x.2.2.2.1 w)
theorem escrow_through_1_l0_se_ok (K : Nat) (R : Rg) (h : subRB [(4, 6), (9, 21)] R = true) : (escrow_through_1_l0_se K).Ok prog R (.block 0 (.loop (cd (bodyOf f81) [1, 1, 0, 1, 0, 0]))) := stmtN_ok (Li := [(0, .int .u8), (1, .ptr), (4, .int .u8), (5, .int .i64)]) (Lo := [(4, .int .u8)]) (S := (fun x w => escrow_through_1_l0 K K x.1 x.2.1 x.2.2.1 x.2.2.2.1 w)) (escrow_through_1_l0_ok K K) (subR_of h)
theorem escrow_through_1_facts : FunFacts prog 81 f81 (bodyOf f81) [(0, .int .u8), (1, .ptr)] [(0, 22)] := ⟨func81, by kernel_rfl, by kernel_rfl, by kernel_rfl, by kernel_rfl, by kernel_rfl⟩
theorem escrow_through_1_calls (K : Nat) (x : TT [(0, .int .u8), (1, .ptr)]) (w : World) (y : TR [.int .u8]) (w2 : World) (h : escrow_through_1 K x.1 x.2.1 w = some (y, w2)) : Calls prog 81 (encA [(0, .int .u8), (1, .ptr)] x).toArray w (fun e w3 => e = .returned (resV (encR [.int .u8] y)) ∧ w3 = w2) :=
    mk_fun (O := tabL [([1, 1, 0, 1], escrow_through_1_l0_se K)]) (Lp := [(0, .int .u8), (1, .ptr)]) (Rt := [.int .u8]) (S := (fun x w => escrow_through_1 K x.1 x.2.1 w)) (escrow_through_1_Eok K) (escrow_through_1_Rok K) rfl escrow_through_1_facts (Orc.cons (by kernel_rfl) (escrow_through_1_l0_se_ok K [(0, 22)] (by kernel_rfl)) (Orc.nil _ _ _)) (fun _ _ => by kernel_rfl) x w y w2 h
noncomputable def escrow_through_1_ce (K : Nat) : CE := funE [(0, .int .u8), (1, .ptr)] [.int .u8] (fun x w => escrow_through_1 K x.1 x.2.1 w)
theorem escrow_through_1_ok (K : Nat) : (escrow_through_1_ce K).Ok prog 81 := funE_ok (Rt := [.int .u8]) (S := (fun x w => escrow_through_1 K x.1 x.2.1 w)) escrow_through_1_facts fun x w y w2 h => escrow_through_1_calls K x w y w2 h

noncomputable def escrow_at_E (K : Nat) : List (Nat × CE) := [(81, escrow_through_1_ce K)]
theorem escrow_at_Eok (K : Nat) : Env.Ok prog (tab (escrow_at_E K)) := (Env.cons (escrow_through_1_ok K) (Env.nil _))
noncomputable def escrow_at_R (K : Nat) : List (Nat × RE) := []
theorem escrow_at_Rok (K : Nat) : REnv.Ok prog (tab (escrow_at_R K)) := (REnv.nil _)
noncomputable def escrow_at_l0_b (K : Nat) (rec : Int → Sl → Sl → Int → Int → World → Option ((Sl × Unit) × World)) (x1 : Int) (l5 : Sl) (a8 : Sl) (a9 : Int) (a10 : Int) (w : World) : Option ((Sl × Unit) × World) :=
  if (decide (a10 < a9)) = true then ((a8.a).bind fun p_1 =>
  if (0 : Int) ≤ a10 ∧ a10 < ((a8.len : Nat) : Int) then ((ldV (p_1.add ((Int.toNat a10) * 1)) w).bind fun v_2 =>
  dyn (tab (escrow_at_E K)) v_2 [(.int .u8 (IntKind.u8.wrap x1))] w fun v_3 w_4 =>
  (asI .u8 v_3).bind fun v_5 =>
  bnd (bldS prog 23 1 #[(0, (.int .u8 v_5))] w_4) fun s_6 w_7 =>
  bnd (apd prog 23 23 (.slice l5.a l5.len l5.cap) (.slice s_6.a s_6.len s_6.cap) w_7) fun s_8 w_9 =>
  rec x1 s_8 a8 a9 (IntKind.i64.wrap (a10 + 1)) w_9) else none) else (some ((l5, ()), w))
noncomputable def escrow_at_l0 (K : Nat) (n : Nat) : Int → Sl → Sl → Int → Int → World → Option ((Sl × Unit) × World) := iter (fun _ _ _ _ _ _ => none) (escrow_at_l0_b K) n
/-- coffer/escrow.at -/
noncomputable def escrow_at (K : Nat) (lines0 : Sl) (x1 : Int) (w : World) : Option ((Sl × Unit) × World) :=
  bnd (escrow_at_l0 K K x1 ⟨none, 0, 0⟩ lines0 ((lines0.len : Nat) : Int) 0 w) fun y_10 w_11 =>
  some ((y_10.1, ()), w_11)
theorem escrow_at_l0_ok (K : Nat) (n : Nat) : StmtNOk prog [(1, .int .i64), (5, .sl), (8, .sl), (9, .int .i64), (10, .int .i64)] [(5, .sl)] [(5, 6), (7, 8), (10, 22)] ((fun n x w => escrow_at_l0 K n x.1 x.2.1 x.2.2.1 x.2.2.2.1 x.2.2.2.2.1 w) n) (.block 0 (.loop (cd (bodyOf f54) [1, 1, 0, 1, 0, 0]))) :=
    mk_loopN (O := tabL []) (root := (bodyOf f54)) (π := [1, 1, 0, 1, 0, 0]) (id := 0) (Li := [(1, .int .i64), (5, .sl), (8, .sl), (9, .int .i64), (10, .int .i64)]) (Lo := [(5, .sl)]) (S := (fun n x w => escrow_at_l0 K n x.1 x.2.1 x.2.2.1 x.2.2.2.1 x.2.2.2.2.1 w)) (body := cd (bodyOf f54) [1, 1, 0, 1, 0, 0]) (escrow_at_Eok K) (escrow_at_Rok K) rfl (Orc.nil _ _ _) (by kernel_rfl) (fun _ _ => by kernel_rfl) (fun _ _ _ => by kernel_rfl) n
noncomputable def escrow_at_l0_se (K : Nat) : SE := stmtN [(1, .int .i64), (5, .sl), (8, .sl), (9, .int .i64), (10, .int .i64)] [(5, .sl)] [(5, 6), (7, 8), (10, 22)] (fun x w => escrow_at_l0 K K x.1 x.2.1 x.2.2.1 x.2.2.2.1 x.2.2.2.2.1 w)
theorem escrow_at_l0_se_ok (K : Nat) (R : Rg) (h : subRB [(5, 6), (7, 8), (10, 22)] R = true) : (escrow_at_l0_se K).Ok prog R (.block 0 (.loop (cd (bodyOf f54) [1, 1, 0, 1, 0, 0]))) := stmtN_ok (Li := [(1, .int .i64), (5, .sl), (8, .sl), (9, .int .i64), (10, .int .i64)]) (Lo := [(5, .sl)]) (S := (fun x w => escrow_at_l0 K K x.1 x.2.1 x.2.2.1 x.2.2.2.1 x.2.2.2.2.1 w)) (escrow_at_l0_ok K K) (subR_of h)
theorem escrow_at_facts : FunFacts prog 54 f54 (bodyOf f54) [(0, .sl), (1, .int .i64)] [(0, 23)] := ⟨func54, by kernel_rfl, by kernel_rfl, by kernel_rfl, by kernel_rfl, by kernel_rfl⟩
theorem escrow_at_calls (K : Nat) (x : TT [(0, .sl), (1, .int .i64)]) (w : World) (y : TR [.sl]) (w2 : World) (h : escrow_at K x.1 x.2.1 w = some (y, w2)) : Calls prog 54 (encA [(0, .sl), (1, .int .i64)] x).toArray w (fun e w3 => e = .returned (resV (encR [.sl] y)) ∧ w3 = w2) :=
    mk_fun (O := tabL [([1, 1, 0, 1], escrow_at_l0_se K)]) (Lp := [(0, .sl), (1, .int .i64)]) (Rt := [.sl]) (S := (fun x w => escrow_at K x.1 x.2.1 w)) (escrow_at_Eok K) (escrow_at_Rok K) rfl escrow_at_facts (Orc.cons (by kernel_rfl) (escrow_at_l0_se_ok K [(0, 23)] (by kernel_rfl)) (Orc.nil _ _ _)) (fun _ _ => by kernel_rfl) x w y w2 h
noncomputable def escrow_at_ce (K : Nat) : CE := funE [(0, .sl), (1, .int .i64)] [.sl] (fun x w => escrow_at K x.1 x.2.1 w)
theorem escrow_at_ok (K : Nat) : (escrow_at_ce K).Ok prog 54 := funE_ok (Rt := [.sl]) (S := (fun x w => escrow_at K x.1 x.2.1 w)) escrow_at_facts fun x w y w2 h => escrow_at_calls K x w y w2 h

noncomputable def escrow_power_R (K : Nat) : List (Nat × RE) := [(61, rijndael_Times_re K)]
theorem escrow_power_Rok (K : Nat) : REnv.Ok prog (tab (escrow_power_R K)) := (REnv.cons (rijndael_Times_ok K) (REnv.nil _))
noncomputable def escrow_power_l0_b (K : Nat) (rec : Int → Int → Int → Option (Out (Int × Unit) (Int × Unit))) (v3 : Int) (a5 : Int) (a6 : Int) : Option (Out (Int × Unit) (Int × Unit)) :=
  if (decide (a6 < a5)) = true then ((rijndael_Times K v3 3).bind fun r_1 =>
  rec r_1.1 a5 (IntKind.i64.wrap (a6 + 1))) else (some (.norm (v3, ())))
noncomputable def escrow_power_l0 (K : Nat) (n : Nat) : Int → Int → Int → Option (Out (Int × Unit) (Int × Unit)) := iter (fun _ _ _ => none) (escrow_power_l0_b K) n
/-- coffer/escrow.power -/
noncomputable def escrow_power (K : Nat) (n0 : Int) : Option (Int × Unit) :=
  (escrow_power_l0 K K 1 (Int.tmod n0 255) 0).bind fun y_2 =>
  (match y_2 with
  | .norm z_3n => (some (z_3n.1, ()))
  | .ret z_3r => (some (z_3r.1, ())))
theorem escrow_power_l0_ok (K : Nat) (n : Nat) : StmtQOk prog [(3, .int .u8), (5, .int .i64), (6, .int .i64)] [(3, .int .u8)] [(2, .int .u8)] [(3, 4), (6, 11)] ((fun n x w => escrow_power_l0 K n x.1 x.2.1 x.2.2.1) n) (.block 0 (.loop (cd (bodyOf f124) [1, 1, 0, 1, 0, 0]))) :=
    mk_loopQ (O := tabL []) (root := (bodyOf f124)) (π := [1, 1, 0, 1, 0, 0]) (id := 0) (Li := [(3, .int .u8), (5, .int .i64), (6, .int .i64)]) (Lo := [(3, .int .u8)]) (Lr := [(2, .int .u8)]) (S := (fun n x w => escrow_power_l0 K n x.1 x.2.1 x.2.2.1)) (body := cd (bodyOf f124) [1, 1, 0, 1, 0, 0]) (escrow_power_Rok K) (OrcQ.nil _ _ _) (by kernel_rfl) (fun _ _ => by kernel_rfl) (fun _ _ _ => by kernel_rfl) n
noncomputable def escrow_power_l0_se (K : Nat) : SQ := stmtQ [(3, .int .u8), (5, .int .i64), (6, .int .i64)] [(3, .int .u8)] [(2, .int .u8)] [(3, 4), (6, 11)] (fun x w => escrow_power_l0 K K x.1 x.2.1 x.2.2.1)
theorem escrow_power_l0_se_ok (K : Nat) (R : Rg) (h : subRB [(3, 4), (6, 11)] R = true) : (escrow_power_l0_se K).Ok prog R (.block 0 (.loop (cd (bodyOf f124) [1, 1, 0, 1, 0, 0]))) := stmtQ_ok (Li := [(3, .int .u8), (5, .int .i64), (6, .int .i64)]) (Lo := [(3, .int .u8)]) (Lr := [(2, .int .u8)]) (S := (fun x w => escrow_power_l0 K K x.1 x.2.1 x.2.2.1)) (escrow_power_l0_ok K K) (subR_of h)
theorem escrow_power_facts : FunFacts prog 124 f124 (bodyOf f124) [(0, .int .i64)] [(0, 12)] := ⟨func124, by kernel_rfl, by kernel_rfl, by kernel_rfl, by kernel_rfl, by kernel_rfl⟩
theorem escrow_power_calls (K : Nat) (x : TT [(0, .int .i64)]) (w : World) (y : TR [.int .u8]) (h : escrow_power K x.1 = some y) : Calls prog 124 (encA [(0, .int .i64)] x).toArray w (fun e w3 => e = .returned (resV (encR [.int .u8] y)) ∧ w3 = w) :=
    mk_funQ (O := tabL [([1, 1, 0, 1], escrow_power_l0_se K)]) (Lp := [(0, .int .i64)]) (Rt := [.int .u8]) (S := (fun x w => escrow_power K x.1)) (escrow_power_Rok K) escrow_power_facts (OrcQ.cons (by kernel_rfl) (escrow_power_l0_se_ok K [(0, 12)] (by kernel_rfl)) (OrcQ.nil _ _ _)) (fun _ _ => by kernel_rfl) x w y h
noncomputable def escrow_power_re (K : Nat) : RE := funR [(0, .int .i64)] [.int .u8] (fun x w => escrow_power K x.1)
theorem escrow_power_ok (K : Nat) : (escrow_power_re K).Ok prog 124 := funR_ok (Rt := [.int .u8]) (S := (fun x w => escrow_power K x.1)) escrow_power_facts fun x w y h => escrow_power_calls K x w y h

noncomputable def escrow_coded_E (K : Nat) : List (Nat × CE) := [(80, slices_Clone_byte_byte_ce)]
theorem escrow_coded_Eok (K : Nat) : Env.Ok prog (tab (escrow_coded_E K)) := (Env.cons (slices_Clone_byte_byte_ok) (Env.nil _))
noncomputable def escrow_coded_R (K : Nat) : List (Nat × RE) := [(124, escrow_power_re K), (61, rijndael_Times_re K)]
theorem escrow_coded_Rok (K : Nat) : REnv.Ok prog (tab (escrow_coded_R K)) := (REnv.cons (escrow_power_ok K) (REnv.cons (rijndael_Times_ok K) (REnv.nil _)))
noncomputable def escrow_coded_l1_b (K : Nat) (rec : Sl → Int → Sl → Int → Sl → Int → Int → World → Option ((Unit) × World)) (b0 : Sl) (j4 : Int) (next5 : Sl) (a14 : Int) (a21 : Sl) (a22 : Int) (a23 : Int) (w : World) : Option ((Unit) × World) :=
  if (decide (a23 < a22)) = true then ((a21.a).bind fun p_9 =>
  if (0 : Int) ≤ a23 ∧ a23 < ((a21.len : Nat) : Int) then ((ldI .u8 (p_9.add ((Int.toNat a23) * 1)) w).bind fun v_10 =>
  (next5.a).bind fun p_11 =>
  if (0 : Int) ≤ (IntKind.i64.wrap (a23 + 1)) ∧ (IntKind.i64.wrap (a23 + 1)) < ((next5.len : Nat) : Int) then ((ldI .u8 (p_11.add ((Int.toNat (IntKind.i64.wrap (a23 + 1))) * 1)) w.drew).bind fun v_12 =>
  (escrow_power K j4).bind fun r_13 =>
  (rijndael_Times K v_10 r_13.1).bind fun r_14 =>
  (next5.a).bind fun p_15 =>
  if (0 : Int) ≤ (IntKind.i64.wrap (a23 + 1)) ∧ (IntKind.i64.wrap (a23 + 1)) < ((next5.len : Nat) : Int) then ((stC (p_15.add ((Int.toNat (IntKind.i64.wrap (a23 + 1))) * 1)) (.int .u8 (bits .xor .u8 v_12 r_14.1)) w.drew).bind fun w_16 =>
  rec b0 j4 next5 a14 a21 a22 (IntKind.i64.wrap (a23 + 1)) w_16) else none) else none) else none) else (some ((), w))
noncomputable def escrow_coded_l1 (K : Nat) (n : Nat) : Sl → Int → Sl → Int → Sl → Int → Int → World → Option ((Unit) × World) := iter (fun _ _ _ _ _ _ _ _ => none) (escrow_coded_l1_b K) n
noncomputable def escrow_coded_l0_b (K : Nat) (rec : Sl → Sl → Int → World → Option ((Sl × Unit) × World)) (b0 : Sl) (g3 : Sl) (a14 : Int) (w : World) : Option ((Sl × Unit) × World) :=
  if (decide (a14 < 4)) = true then (bnd (slices_Clone_byte_byte g3 w) fun r_3 w_4 =>
  bnd (bldS prog 23 1 #[(0, (.int .u8 0))] w_4) fun s_5 w_6 =>
  bnd (apd prog 23 23 (.slice r_3.1.a r_3.1.len r_3.1.cap) (.slice s_5.a s_5.len s_5.cap) w_6) fun s_7 w_8 =>
  bnd (escrow_coded_l1 K K b0 a14 s_7 a14 g3 ((g3.len : Nat) : Int) 0 w_8) fun y_17 w_18 =>
  rec b0 s_7 (IntKind.i64.wrap (a14 + 1)) w_18) else (some ((g3, ()), w))
noncomputable def escrow_coded_l0 (K : Nat) (n : Nat) : Sl → Sl → Int → World → Option ((Sl × Unit) × World) := iter (fun _ _ _ _ => none) (escrow_coded_l0_b K) n
noncomputable def escrow_coded_l3_b (K : Nat) (rec : Sl → Sl → Sl → Int → Int → Int → Int → Sl → Int → Int → World → Option ((Unit) × World)) (b0 : Sl) (g3 : Sl) (rest8 : Sl) (i9 : Int) (c10 : Int) (a46 : Int) (a47 : Int) (a54 : Sl) (a55 : Int) (a56 : Int) (w : World) : Option ((Unit) × World) :=
  if (decide (a56 < a55)) = true then ((a54.a).bind fun p_27 =>
  if (0 : Int) ≤ a56 ∧ a56 < ((a54.len : Nat) : Int) then ((ldI .u8 (p_27.add ((Int.toNat a56) * 1)) w).bind fun v_28 =>
  (rest8.a).bind fun p_29 =>
  if (0 : Int) ≤ (IntKind.i64.wrap (i9 + a56)) ∧ (IntKind.i64.wrap (i9 + a56)) < ((rest8.len : Nat) : Int) then ((ldI .u8 (p_29.add ((Int.toNat (IntKind.i64.wrap (i9 + a56))) * 1)) w.drew).bind fun v_30 =>
  (rijndael_Times K c10 v_28).bind fun r_31 =>
  (rest8.a).bind fun p_32 =>
  if (0 : Int) ≤ (IntKind.i64.wrap (i9 + a56)) ∧ (IntKind.i64.wrap (i9 + a56)) < ((rest8.len : Nat) : Int) then ((stC (p_32.add ((Int.toNat (IntKind.i64.wrap (i9 + a56))) * 1)) (.int .u8 (bits .xor .u8 v_30 r_31.1)) w.drew).bind fun w_33 =>
  rec b0 g3 rest8 i9 c10 a46 a47 a54 a55 (IntKind.i64.wrap (a56 + 1)) w_33) else none) else none) else none) else (some ((), w))
noncomputable def escrow_coded_l3 (K : Nat) (n : Nat) : Sl → Sl → Sl → Int → Int → Int → Int → Sl → Int → Int → World → Option ((Unit) × World) := iter (fun _ _ _ _ _ _ _ _ _ _ _ => none) (escrow_coded_l3_b K) n
noncomputable def escrow_coded_l2_b (K : Nat) (rec : Sl → Sl → Sl → Int → Int → World → Option ((Unit) × World)) (b0 : Sl) (g3 : Sl) (rest8 : Sl) (a46 : Int) (a47 : Int) (w : World) : Option ((Unit) × World) :=
  if (decide (a47 < a46)) = true then ((rest8.a).bind fun p_25 =>
  if (0 : Int) ≤ a47 ∧ a47 < ((rest8.len : Nat) : Int) then ((ldI .u8 (p_25.add ((Int.toNat a47) * 1)) w).bind fun v_26 =>
  bnd (escrow_coded_l3 K K b0 g3 rest8 a47 v_26 a46 a47 g3 ((g3.len : Nat) : Int) 0 w) fun y_34 w_35 =>
  rec b0 g3 rest8 a46 (IntKind.i64.wrap (a47 + 1)) w_35) else none) else (some ((), w))
noncomputable def escrow_coded_l2 (K : Nat) (n : Nat) : Sl → Sl → Sl → Int → Int → World → Option ((Unit) × World) := iter (fun _ _ _ _ _ _ => none) (escrow_coded_l2_b K) n
/-- coffer/escrow.coded -/
noncomputable def escrow_coded (K : Nat) (b0 : Sl) (w : World) : Option ((Sl × Unit) × World) :=
  bnd (bldS prog 23 1 #[(0, (.int .u8 1))] w) fun s_1 w_2 =>
  bnd (escrow_coded_l0 K K b0 s_1 0 w_2) fun y_19 w_20 =>
  bnd (slices_Clone_byte_byte b0 w_20) fun r_21 w_22 =>
  bnd (apd prog 23 3 (.slice r_21.1.a r_21.1.len r_21.1.cap) (.int .i64 4) w_22) fun s_23 w_24 =>
  bnd (escrow_coded_l2 K K b0 y_19.1 s_23 ((b0.len : Nat) : Int) 0 w_24) fun y_36 w_37 =>
  if (0 : Int) ≤ ((b0.len : Nat) : Int) ∧ ((b0.len : Nat) : Int) ≤ ((s_23.len : Nat) : Int) then (bnd (slices_Clone_byte_byte b0 w_37.drew) fun r_38 w_39 =>
  bnd (apd prog 23 23 (.slice r_38.1.a r_38.1.len r_38.1.cap) (.slice (sla s_23.a (Int.toNat (((b0.len : Nat) : Int))) s_23.cap 1) (s_23.len - (Int.toNat (((b0.len : Nat) : Int)))) (s_23.cap - (Int.toNat (((b0.len : Nat) : Int))))) w_39) fun s_40 w_41 =>
  some ((s_40, ()), w_41)) else none
theorem escrow_coded_l1_ok (K : Nat) (n : Nat) : StmtNOk prog [(0, .sl), (4, .int .i64), (5, .sl), (14, .int .i64), (21, .sl), (22, .int .i64), (23, .int .i64)] [] [(6, 8), (23, 40)] ((fun n x w => escrow_coded_l1 K n x.1 x.2.1 x.2.2.1 x.2.2.2.1 x.2.2.2.2.1 x.2.2.2.2.2.1 x.2.2.2.2.2.2.1 w) n) (.block 2 (.loop (cd (bodyOf f108) [1, 1, 0, 1, 0, 0, 1, 1, 0, 0, 1, 1, 0, 1, 0, 0]))) :=
    mk_loopN (O := tabL []) (root := (bodyOf f108)) (π := [1, 1, 0, 1, 0, 0, 1, 1, 0, 0, 1, 1, 0, 1, 0, 0]) (id := 2) (Li := [(0, .sl), (4, .int .i64), (5, .sl), (14, .int .i64), (21, .sl), (22, .int .i64), (23, .int .i64)]) (Lo := []) (S := (fun n x w => escrow_coded_l1 K n x.1 x.2.1 x.2.2.1 x.2.2.2.1 x.2.2.2.2.1 x.2.2.2.2.2.1 x.2.2.2.2.2.2.1 w)) (body := cd (bodyOf f108) [1, 1, 0, 1, 0, 0, 1, 1, 0, 0, 1, 1, 0, 1, 0, 0]) (escrow_coded_Eok K) (escrow_coded_Rok K) rfl (Orc.nil _ _ _) (by kernel_rfl) (fun _ _ => by kernel_rfl) (fun _ _ _ => by kernel_rfl) n
noncomputable def escrow_coded_l1_se (K : Nat) : SE := stmtN [(0, .sl), (4, .int .i64), (5, .sl), (14, .int .i64), (21, .sl), (22, .int .i64), (23, .int .i64)] [] [(6, 8), (23, 40)] (fun x w => escrow_coded_l1 K K x.1 x.2.1 x.2.2.1 x.2.2.2.1 x.2.2.2.2.1 x.2.2.2.2.2.1 x.2.2.2.2.2.2.1 w)
theorem escrow_coded_l1_se_ok (K : Nat) (R : Rg) (h : subRB [(6, 8), (23, 40)] R = true) : (escrow_coded_l1_se K).Ok prog R (.block 2 (.loop (cd (bodyOf f108) [1, 1, 0, 1, 0, 0, 1, 1, 0, 0, 1, 1, 0, 1, 0, 0]))) := stmtN_ok (Li := [(0, .sl), (4, .int .i64), (5, .sl), (14, .int .i64), (21, .sl), (22, .int .i64), (23, .int .i64)]) (Lo := []) (S := (fun x w => escrow_coded_l1 K K x.1 x.2.1 x.2.2.1 x.2.2.2.1 x.2.2.2.2.1 x.2.2.2.2.2.1 x.2.2.2.2.2.2.1 w)) (escrow_coded_l1_ok K K) (subR_of h)
theorem escrow_coded_l0_ok (K : Nat) (n : Nat) : StmtNOk prog [(0, .sl), (3, .sl), (14, .int .i64)] [(3, .sl)] [(3, 8), (14, 42)] ((fun n x w => escrow_coded_l0 K n x.1 x.2.1 x.2.2.1 w) n) (.block 0 (.loop (cd (bodyOf f108) [1, 1, 0, 1, 0, 0]))) :=
    mk_loopN (O := tabL [([1, 1, 0, 1, 0, 0, 1, 1, 0, 0, 1, 1, 0, 1], escrow_coded_l1_se K)]) (root := (bodyOf f108)) (π := [1, 1, 0, 1, 0, 0]) (id := 0) (Li := [(0, .sl), (3, .sl), (14, .int .i64)]) (Lo := [(3, .sl)]) (S := (fun n x w => escrow_coded_l0 K n x.1 x.2.1 x.2.2.1 w)) (body := cd (bodyOf f108) [1, 1, 0, 1, 0, 0]) (escrow_coded_Eok K) (escrow_coded_Rok K) rfl (Orc.cons (by kernel_rfl) (escrow_coded_l1_se_ok K [(3, 8), (14, 42)] (by kernel_rfl)) (Orc.nil _ _ _)) (by kernel_rfl) (fun _ _ => by kernel_rfl) (fun _ _ _ => by kernel_rfl) n
noncomputable def escrow_coded_l0_se (K : Nat) : SE := stmtN [(0, .sl), (3, .sl), (14, .int .i64)] [(3, .sl)] [(3, 8), (14, 42)] (fun x w => escrow_coded_l0 K K x.1 x.2.1 x.2.2.1 w)
theorem escrow_coded_l0_se_ok (K : Nat) (R : Rg) (h : subRB [(3, 8), (14, 42)] R = true) : (escrow_coded_l0_se K).Ok prog R (.block 0 (.loop (cd (bodyOf f108) [1, 1, 0, 1, 0, 0]))) := stmtN_ok (Li := [(0, .sl), (3, .sl), (14, .int .i64)]) (Lo := [(3, .sl)]) (S := (fun x w => escrow_coded_l0 K K x.1 x.2.1 x.2.2.1 w)) (escrow_coded_l0_ok K K) (subR_of h)
theorem escrow_coded_l3_ok (K : Nat) (n : Nat) : StmtNOk prog [(0, .sl), (3, .sl), (8, .sl), (9, .int .i64), (10, .int .u8), (46, .int .i64), (47, .int .i64), (54, .sl), (55, .int .i64), (56, .int .i64)] [] [(11, 13), (56, 73)] ((fun n x w => escrow_coded_l3 K n x.1 x.2.1 x.2.2.1 x.2.2.2.1 x.2.2.2.2.1 x.2.2.2.2.2.1 x.2.2.2.2.2.2.1 x.2.2.2.2.2.2.2.1 x.2.2.2.2.2.2.2.2.1 x.2.2.2.2.2.2.2.2.2.1 w) n) (.block 6 (.loop (cd (bodyOf f108) [1, 1, 1, 1, 0, 1, 0, 0, 1, 1, 0, 0, 1, 1, 1, 0, 0]))) :=
    mk_loopN (O := tabL []) (root := (bodyOf f108)) (π := [1, 1, 1, 1, 0, 1, 0, 0, 1, 1, 0, 0, 1, 1, 1, 0, 0]) (id := 6) (Li := [(0, .sl), (3, .sl), (8, .sl), (9, .int .i64), (10, .int .u8), (46, .int .i64), (47, .int .i64), (54, .sl), (55, .int .i64), (56, .int .i64)]) (Lo := []) (S := (fun n x w => escrow_coded_l3 K n x.1 x.2.1 x.2.2.1 x.2.2.2.1 x.2.2.2.2.1 x.2.2.2.2.2.1 x.2.2.2.2.2.2.1 x.2.2.2.2.2.2.2.1 x.2.2.2.2.2.2.2.2.1 x.2.2.2.2.2.2.2.2.2.1 w)) (body := cd (bodyOf f108) [1, 1, 1, 1, 0, 1, 0, 0, 1, 1, 0, 0, 1, 1, 1, 0, 0]) (escrow_coded_Eok K) (escrow_coded_Rok K) rfl (Orc.nil _ _ _) (by kernel_rfl) (fun _ _ => by kernel_rfl) (fun _ _ _ => by kernel_rfl) n
noncomputable def escrow_coded_l3_se (K : Nat) : SE := stmtN [(0, .sl), (3, .sl), (8, .sl), (9, .int .i64), (10, .int .u8), (46, .int .i64), (47, .int .i64), (54, .sl), (55, .int .i64), (56, .int .i64)] [] [(11, 13), (56, 73)] (fun x w => escrow_coded_l3 K K x.1 x.2.1 x.2.2.1 x.2.2.2.1 x.2.2.2.2.1 x.2.2.2.2.2.1 x.2.2.2.2.2.2.1 x.2.2.2.2.2.2.2.1 x.2.2.2.2.2.2.2.2.1 x.2.2.2.2.2.2.2.2.2.1 w)
theorem escrow_coded_l3_se_ok (K : Nat) (R : Rg) (h : subRB [(11, 13), (56, 73)] R = true) : (escrow_coded_l3_se K).Ok prog R (.block 6 (.loop (cd (bodyOf f108) [1, 1, 1, 1, 0, 1, 0, 0, 1, 1, 0, 0, 1, 1, 1, 0, 0]))) := stmtN_ok (Li := [(0, .sl), (3, .sl), (8, .sl), (9, .int .i64), (10, .int .u8), (46, .int .i64), (47, .int .i64), (54, .sl), (55, .int .i64), (56, .int .i64)]) (Lo := []) (S := (fun x w => escrow_coded_l3 K K x.1 x.2.1 x.2.2.1 x.2.2.2.1 x.2.2.2.2.1 x.2.2.2.2.2.1 x.2.2.2.2.2.2.1 x.2.2.2.2.2.2.2.1 x.2.2.2.2.2.2.2.2.1 x.2.2.2.2.2.2.2.2.2.1 w)) (escrow_coded_l3_ok K K) (subR_of h)
theorem escrow_coded_l2_ok (K : Nat) (n : Nat) : StmtNOk prog [(0, .sl), (3, .sl), (8, .sl), (46, .int .i64), (47, .int .i64)] [] [(9, 13), (47, 74)] ((fun n x w => escrow_coded_l2 K n x.1 x.2.1 x.2.2.1 x.2.2.2.1 x.2.2.2.2.1 w) n) (.block 4 (.loop (cd (bodyOf f108) [1, 1, 1, 1, 0, 1, 0, 0]))) :=
    mk_loopN (O := tabL [([1, 1, 1, 1, 0, 1, 0, 0, 1, 1, 0, 0, 1, 1, 1], escrow_coded_l3_se K)]) (root := (bodyOf f108)) (π := [1, 1, 1, 1, 0, 1, 0, 0]) (id := 4) (Li := [(0, .sl), (3, .sl), (8, .sl), (46, .int .i64), (47, .int .i64)]) (Lo := []) (S := (fun n x w => escrow_coded_l2 K n x.1 x.2.1 x.2.2.1 x.2.2.2.1 x.2.2.2.2.1 w)) (body := cd (bodyOf f108) [1, 1, 1, 1, 0, 1, 0, 0]) (escrow_coded_Eok K) (escrow_coded_Rok K) rfl (Orc.cons (by kernel_rfl) (escrow_coded_l3_se_ok K [(9, 13), (47, 74)] (by kernel_rfl)) (Orc.nil _ _ _)) (by kernel_rfl) (fun _ _ => by kernel_rfl) (fun _ _ _ => by kernel_rfl) n
noncomputable def escrow_coded_l2_se (K : Nat) : SE := stmtN [(0, .sl), (3, .sl), (8, .sl), (46, .int .i64), (47, .int .i64)] [] [(9, 13), (47, 74)] (fun x w => escrow_coded_l2 K K x.1 x.2.1 x.2.2.1 x.2.2.2.1 x.2.2.2.2.1 w)
theorem escrow_coded_l2_se_ok (K : Nat) (R : Rg) (h : subRB [(9, 13), (47, 74)] R = true) : (escrow_coded_l2_se K).Ok prog R (.block 4 (.loop (cd (bodyOf f108) [1, 1, 1, 1, 0, 1, 0, 0]))) := stmtN_ok (Li := [(0, .sl), (3, .sl), (8, .sl), (46, .int .i64), (47, .int .i64)]) (Lo := []) (S := (fun x w => escrow_coded_l2 K K x.1 x.2.1 x.2.2.1 x.2.2.2.1 x.2.2.2.2.1 w)) (escrow_coded_l2_ok K K) (subR_of h)
theorem escrow_coded_facts : FunFacts prog 108 f108 (bodyOf f108) [(0, .sl)] [(0, 81)] := ⟨func108, by kernel_rfl, by kernel_rfl, by kernel_rfl, by kernel_rfl, by kernel_rfl⟩
theorem escrow_coded_calls (K : Nat) (x : TT [(0, .sl)]) (w : World) (y : TR [.sl]) (w2 : World) (h : escrow_coded K x.1 w = some (y, w2)) : Calls prog 108 (encA [(0, .sl)] x).toArray w (fun e w3 => e = .returned (resV (encR [.sl] y)) ∧ w3 = w2) :=
    mk_fun (O := tabL [([1, 1, 0, 1], escrow_coded_l0_se K), ([1, 1, 0, 1, 0, 0, 1, 1, 0, 0, 1, 1, 0, 1], escrow_coded_l1_se K), ([1, 1, 1, 1, 0, 1], escrow_coded_l2_se K), ([1, 1, 1, 1, 0, 1, 0, 0, 1, 1, 0, 0, 1, 1, 1], escrow_coded_l3_se K)]) (Lp := [(0, .sl)]) (Rt := [.sl]) (S := (fun x w => escrow_coded K x.1 w)) (escrow_coded_Eok K) (escrow_coded_Rok K) rfl escrow_coded_facts (Orc.cons (by kernel_rfl) (escrow_coded_l0_se_ok K [(0, 81)] (by kernel_rfl)) (Orc.cons (by kernel_rfl) (escrow_coded_l1_se_ok K [(0, 81)] (by kernel_rfl)) (Orc.cons (by kernel_rfl) (escrow_coded_l2_se_ok K [(0, 81)] (by kernel_rfl)) (Orc.cons (by kernel_rfl) (escrow_coded_l3_se_ok K [(0, 81)] (by kernel_rfl)) (Orc.nil _ _ _))))) (fun _ _ => by kernel_rfl) x w y w2 h
noncomputable def escrow_coded_ce (K : Nat) : CE := funE [(0, .sl)] [.sl] (fun x w => escrow_coded K x.1 w)
theorem escrow_coded_ok (K : Nat) : (escrow_coded_ce K).Ok prog 108 := funE_ok (Rt := [.sl]) (S := (fun x w => escrow_coded K x.1 w)) escrow_coded_facts fun x w y w2 h => escrow_coded_calls K x w y w2 h

noncomputable def escrow_share_bytes_E (K : Nat) : List (Nat × CE) := [(108, escrow_coded_ce K)]
theorem escrow_share_bytes_Eok (K : Nat) : Env.Ok prog (tab (escrow_share_bytes_E K)) := (Env.cons (escrow_coded_ok K) (Env.nil _))
noncomputable def escrow_share_bytes_R (K : Nat) : List (Nat × RE) := []
theorem escrow_share_bytes_Rok (K : Nat) : REnv.Ok prog (tab (escrow_share_bytes_R K)) := (REnv.nil _)
/-- (coffer/escrow.share).bytes -/
noncomputable def escrow_share_bytes (K : Nat) (s0 : Array Value) (w : World) : Option ((Sl × Unit) × World) :=
  bnd (newB s0 102 w) fun p_1 w_2 =>
  (ldI .u16 ((p_1.add 0).add 0) w_2).bind fun v_3 =>
  (ldI .u16 ((p_1.add 0).add 0) w_2).bind fun v_4 =>
  (ldI .i64 ((p_1.add 0).add 1) w_2).bind fun v_5 =>
  (ldI .i64 ((p_1.add 0).add 2) w_2).bind fun v_6 =>
  (ldI .i64 ((p_1.add 0).add 3) w_2).bind fun v_7 =>
  bnd (bldS prog 23 5 #[(0, (.int .u8 (IntKind.u8.wrap (Int.fdiv v_3 (2 ^ 8))))), (1, (.int .u8 (IntKind.u8.wrap v_4))), (2, (.int .u8 (IntKind.u8.wrap v_5))), (3, (.int .u8 (IntKind.u8.wrap v_6))), (4, (.int .u8 (IntKind.u8.wrap v_7)))] w_2) fun s_8 w_9 =>
  (ldS (p_1.add 4) w_9).bind fun v_10 =>
  bnd (apd prog 23 23 (.slice s_8.a s_8.len s_8.cap) (.slice v_10.a v_10.len v_10.cap) w_9) fun s_11 w_12 =>
  if ((Int.tmod ((s_11.len : Nat) : Int) 2) == 1) = true then (bnd (bldS prog 23 1 #[(0, (.int .u8 0))] w_12) fun s_13 w_14 =>
  bnd (apd prog 23 23 (.slice s_11.a s_11.len s_11.cap) (.slice s_13.a s_13.len s_13.cap) w_14) fun s_15 w_16 =>
  bnd (escrow_coded K s_15 w_16) fun r_17 w_18 =>
  some ((r_17.1, ()), w_18)) else (bnd (escrow_coded K s_11 w_12) fun r_19 w_20 =>
  some ((r_19.1, ()), w_20))
theorem escrow_share_bytes_facts : FunFacts prog 82 f82 (bodyOf f82) [(0, .agg)] [(0, 38)] := ⟨func82, by kernel_rfl, by kernel_rfl, by kernel_rfl, by kernel_rfl, by kernel_rfl⟩
theorem escrow_share_bytes_calls (K : Nat) (x : TT [(0, .agg)]) (w : World) (y : TR [.sl]) (w2 : World) (h : escrow_share_bytes K x.1 w = some (y, w2)) : Calls prog 82 (encA [(0, .agg)] x).toArray w (fun e w3 => e = .returned (resV (encR [.sl] y)) ∧ w3 = w2) :=
    mk_fun (O := tabL []) (Lp := [(0, .agg)]) (Rt := [.sl]) (S := (fun x w => escrow_share_bytes K x.1 w)) (escrow_share_bytes_Eok K) (escrow_share_bytes_Rok K) rfl escrow_share_bytes_facts (Orc.nil _ _ _) (fun _ _ => by kernel_rfl) x w y w2 h
noncomputable def escrow_share_bytes_ce (K : Nat) : CE := funE [(0, .agg)] [.sl] (fun x w => escrow_share_bytes K x.1 w)
theorem escrow_share_bytes_ok (K : Nat) : (escrow_share_bytes_ce K).Ok prog 82 := funE_ok (Rt := [.sl]) (S := (fun x w => escrow_share_bytes K x.1 w)) escrow_share_bytes_facts fun x w y w2 h => escrow_share_bytes_calls K x w y w2 h

end Go.Sh
