/- What functions of the program do, as Lean functions; that the machine does just that. Printed by shal.py, a program of this claim's writer. -/
import Derived.Test.YteomkfcfhlljkaaSh1
set_option maxRecDepth 100000
set_option linter.unusedVariables false
namespace Go.Sh
open Go.Fw Go.Proofs.Try

noncomputable def ref11_near_E (K : Nat) : List (Nat × CE) := [(28, ref11_Sums_ce K), (29, ref11_Powers_ce K)]
theorem ref11_near_Eok (K : Nat) : Env.Ok prog (tab (ref11_near_E K)) := (Env.cons (ref11_Sums_ok K) (Env.cons (ref11_Powers_ok K) (Env.nil _)))
noncomputable def ref11_near_R (K : Nat) : List (Nat × RE) := [(30, ref11_times_re K)]
theorem ref11_near_Rok (K : Nat) : REnv.Ok prog (tab (ref11_near_R K)) := (REnv.cons (ref11_times_ok K) (REnv.nil _))
noncomputable def ref11_near_s1 (K : Nat) (s5 : Addr) (x11 : Int) (y12 : Int) (w : World) : Option ((Bool × Unit) × World) :=
  (ldI .u8 (s5.add (1 * 1)) w.drew).bind fun v_30 =>
  (ldI .u8 (s5.add (0 * 1)) w.drew).bind fun v_31 =>
  (ref11_times K v_31 x11).bind fun r_32 =>
  if (v_30 == r_32.1) = true then ((ldI .u8 (s5.add (2 * 1)) w.drew).bind fun v_33 =>
  (ldI .u8 (s5.add (0 * 1)) w.drew).bind fun v_34 =>
  (ref11_times K v_34 y12).bind fun r_35 =>
  if (v_33 == r_35.1) = true then ((ldI .u8 (s5.add (3 * 1)) w.drew).bind fun v_36 =>
  (ldI .u8 (s5.add (0 * 1)) w.drew).bind fun v_37 =>
  (ref11_times K x11 y12).bind fun r_38 =>
  (ref11_times K v_37 r_38.1).bind fun r_39 =>
  some (((v_36 == r_39.1), ()), w.drew)) else (some ((false, ()), w.drew))) else (some ((false, ()), w.drew))
noncomputable def ref11_near_l0_b (K : Nat) (rec : Sl → Addr → Int → Sl → Int → World → Option ((Out (Unit) (Sl × Int × Bool × Unit)) × World)) (b0 : Sl) (s5 : Addr) (n7 : Int) (p8 : Sl) (i9 : Int) (w : World) : Option ((Out (Unit) (Sl × Int × Bool × Unit)) × World) :=
  if (decide (i9 < n7)) = true then (bnd (bldS prog 25 0 #[] w) fun s_18 w_19 =>
  bnd (apd prog 25 25 (.slice s_18.a s_18.len s_18.cap) (.slice b0.a b0.len b0.cap) w_19) fun s_20 w_21 =>
  (s_20.a).bind fun p_22 =>
  if (0 : Int) ≤ i9 ∧ i9 < ((s_20.len : Nat) : Int) then ((ldI .u8 (p_22.add ((Int.toNat i9) * 1)) w_21.drew).bind fun v_23 =>
  (ldI .u8 (s5.add (0 * 1)) w_21.drew).bind fun v_24 =>
  (s_20.a).bind fun p_25 =>
  if (0 : Int) ≤ i9 ∧ i9 < ((s_20.len : Nat) : Int) then ((stC (p_25.add ((Int.toNat i9) * 1)) (.int .u8 (bits .xor .u8 v_23 v_24)) w_21.drew).bind fun w_26 =>
  (p8.a).bind fun p_27 =>
  if (0 : Int) ≤ (IntKind.i64.wrap ((IntKind.i64.wrap (n7 - 1)) - i9)) ∧ (IntKind.i64.wrap ((IntKind.i64.wrap (n7 - 1)) - i9)) < ((p8.len : Nat) : Int) then ((ldI .u8 (p_27.add ((Int.toNat (IntKind.i64.wrap ((IntKind.i64.wrap (n7 - 1)) - i9))) * 1)) w_26).bind fun v_28 =>
  (ref11_times K v_28 v_28).bind fun r_29 =>
  bnd (ref11_near_s1 K s5 v_28 r_29.1 w_26) fun y_40 w_41 =>
  if y_40.1 = true then ((ldI .u8 (s5.add (0 * 1)) w_41.drew).bind fun v_42 =>
  some (.ret (s_20, 1, (v_42 != 0), ()), w_41.drew)) else (rec b0 s5 n7 p8 (IntKind.i64.wrap (i9 + 1)) w_41)) else none) else none) else none) else (some (.norm (), w))
noncomputable def ref11_near_l0 (K : Nat) (n : Nat) : Sl → Addr → Int → Sl → Int → World → Option ((Out (Unit) (Sl × Int × Bool × Unit)) × World) := iter (fun _ _ _ _ _ _ => none) (ref11_near_l0_b K) n
noncomputable def ref11_near_l2_b (K : Nat) (rec : Sl → Addr → Int → Sl → Addr → Int → World → Option ((Unit) × World)) (b0 : Sl) (s5 : Addr) (n7 : Int) (p8 : Sl) (inverse13 : Addr) (i14 : Int) (w : World) : Option ((Unit) × World) :=
  if (decide (i14 < 255)) = true then ((p8.a).bind fun p_48 =>
  if (0 : Int) ≤ i14 ∧ i14 < ((p8.len : Nat) : Int) then ((p8.a).bind fun p_49 =>
  if (0 : Int) ≤ (Int.tmod (IntKind.i64.wrap (255 - i14)) 255) ∧ (Int.tmod (IntKind.i64.wrap (255 - i14)) 255) < ((p8.len : Nat) : Int) then ((ldI .u8 (p_48.add ((Int.toNat i14) * 1)) w.drew).bind fun v_50 =>
  (ldI .u8 (p_49.add ((Int.toNat (Int.tmod (IntKind.i64.wrap (255 - i14)) 255)) * 1)) w.drew).bind fun v_51 =>
  if (0 : Int) ≤ v_50 ∧ v_50 < ((256 : Nat) : Int) then ((stC (inverse13.add ((Int.toNat v_50) * 1)) (.int .u8 v_51) w.drew).bind fun w_52 =>
  rec b0 s5 n7 p8 inverse13 (IntKind.i64.wrap (i14 + 1)) w_52) else none) else none) else none) else (some ((), w))
noncomputable def ref11_near_l2 (K : Nat) (n : Nat) : Sl → Addr → Int → Sl → Addr → Int → World → Option ((Unit) × World) := iter (fun _ _ _ _ _ _ _ => none) (ref11_near_l2_b K) n
noncomputable def ref11_near_s5 (K : Nat) (s5 : Addr) (x16 : Int) (y18 : Int) (w19 : Int) (v20 : Int) (w : World) : Option ((Bool × Unit) × World) :=
  (ldI .u8 (s5.add (2 * 1)) w.drew).bind fun v_65 =>
  (ref11_times K x16 x16).bind fun r_66 =>
  (ref11_times K v20 r_66.1).bind fun r_67 =>
  (ref11_times K y18 y18).bind fun r_68 =>
  (ref11_times K w19 r_68.1).bind fun r_69 =>
  if (v_65 != (bits .xor .u8 r_67.1 r_69.1)) = true then (some ((true, ()), w.drew)) else ((ldI .u8 (s5.add (3 * 1)) w.drew).bind fun v_70 =>
  (ref11_times K x16 x16).bind fun r_71 =>
  (ref11_times K x16 r_71.1).bind fun r_72 =>
  (ref11_times K v20 r_72.1).bind fun r_73 =>
  (ref11_times K y18 y18).bind fun r_74 =>
  (ref11_times K y18 r_74.1).bind fun r_75 =>
  (ref11_times K w19 r_75.1).bind fun r_76 =>
  if (v_70 != (bits .xor .u8 r_73.1 r_76.1)) = true then (some ((true, ()), w.drew)) else (if (v20 == 0) = true then (some ((true, ()), w.drew)) else (some (((w19 == 0), ()), w.drew))))
noncomputable def ref11_near_l4_b (K : Nat) (rec : Sl → Addr → Int → Sl → Addr → Int → Int → Int → World → Option ((Out (Unit) (Sl × Int × Bool × Unit)) × World)) (b0 : Sl) (s5 : Addr) (n7 : Int) (p8 : Sl) (inverse13 : Addr) (i15 : Int) (x16 : Int) (k17 : Int) (w : World) : Option ((Out (Unit) (Sl × Int × Bool × Unit)) × World) :=
  if (decide (k17 < n7)) = true then ((p8.a).bind fun p_57 =>
  if (0 : Int) ≤ (IntKind.i64.wrap ((IntKind.i64.wrap (n7 - 1)) - k17)) ∧ (IntKind.i64.wrap ((IntKind.i64.wrap (n7 - 1)) - k17)) < ((p8.len : Nat) : Int) then ((ldI .u8 (p_57.add ((Int.toNat (IntKind.i64.wrap ((IntKind.i64.wrap (n7 - 1)) - k17))) * 1)) w).bind fun v_58 =>
  if (0 : Int) ≤ (bits .xor .u8 x16 v_58) ∧ (bits .xor .u8 x16 v_58) < ((256 : Nat) : Int) then ((ldI .u8 (s5.add (1 * 1)) w.drew).bind fun v_59 =>
  (ldI .u8 (s5.add (0 * 1)) w.drew).bind fun v_60 =>
  (ref11_times K v_60 x16).bind fun r_61 =>
  (ldI .u8 (inverse13.add ((Int.toNat (bits .xor .u8 x16 v_58)) * 1)) w.drew).bind fun v_62 =>
  (ref11_times K (bits .xor .u8 v_59 r_61.1) v_62).bind fun r_63 =>
  (ldI .u8 (s5.add (0 * 1)) w.drew).bind fun v_64 =>
  bnd (ref11_near_s5 K s5 x16 v_58 r_63.1 (bits .xor .u8 v_64 r_63.1) w.drew) fun y_77 w_78 =>
  if y_77.1 = true then (rec b0 s5 n7 p8 inverse13 i15 x16 (IntKind.i64.wrap (k17 + 1)) w_78) else (bnd (bldS prog 25 0 #[] w_78) fun s_79 w_80 =>
  bnd (apd prog 25 25 (.slice s_79.a s_79.len s_79.cap) (.slice b0.a b0.len b0.cap) w_80) fun s_81 w_82 =>
  (s_81.a).bind fun p_83 =>
  if (0 : Int) ≤ i15 ∧ i15 < ((s_81.len : Nat) : Int) then ((ldI .u8 (p_83.add ((Int.toNat i15) * 1)) w_82).bind fun v_84 =>
  (s_81.a).bind fun p_85 =>
  if (0 : Int) ≤ i15 ∧ i15 < ((s_81.len : Nat) : Int) then ((stC (p_85.add ((Int.toNat i15) * 1)) (.int .u8 (bits .xor .u8 v_84 (bits .xor .u8 v_64 r_63.1))) w_82).bind fun w_86 =>
  (s_81.a).bind fun p_87 =>
  if (0 : Int) ≤ k17 ∧ k17 < ((s_81.len : Nat) : Int) then ((ldI .u8 (p_87.add ((Int.toNat k17) * 1)) w_86).bind fun v_88 =>
  (s_81.a).bind fun p_89 =>
  if (0 : Int) ≤ k17 ∧ k17 < ((s_81.len : Nat) : Int) then ((stC (p_89.add ((Int.toNat k17) * 1)) (.int .u8 (bits .xor .u8 v_88 r_63.1)) w_86).bind fun w_90 =>
  some (.ret (s_81, 2, true, ()), w_90)) else none) else none) else none) else none)) else none) else none) else (some (.norm (), w))
noncomputable def ref11_near_l4 (K : Nat) (n : Nat) : Sl → Addr → Int → Sl → Addr → Int → Int → Int → World → Option ((Out (Unit) (Sl × Int × Bool × Unit)) × World) := iter (fun _ _ _ _ _ _ _ _ _ => none) (ref11_near_l4_b K) n
noncomputable def ref11_near_l3_b (K : Nat) (rec : Sl → Addr → Int → Sl → Addr → Int → World → Option ((Out (Unit) (Sl × Int × Bool × Unit)) × World)) (b0 : Sl) (s5 : Addr) (n7 : Int) (p8 : Sl) (inverse13 : Addr) (i15 : Int) (w : World) : Option ((Out (Unit) (Sl × Int × Bool × Unit)) × World) :=
  if (decide (i15 < n7)) = true then ((p8.a).bind fun p_55 =>
  if (0 : Int) ≤ (IntKind.i64.wrap ((IntKind.i64.wrap (n7 - 1)) - i15)) ∧ (IntKind.i64.wrap ((IntKind.i64.wrap (n7 - 1)) - i15)) < ((p8.len : Nat) : Int) then ((ldI .u8 (p_55.add ((Int.toNat (IntKind.i64.wrap ((IntKind.i64.wrap (n7 - 1)) - i15))) * 1)) w).bind fun v_56 =>
  bnd (ref11_near_l4 K K b0 s5 n7 p8 inverse13 i15 v_56 (IntKind.i64.wrap (i15 + 1)) w) fun y_91 w_92 =>
  (match y_91 with
  | .norm z_93n => (rec b0 s5 n7 p8 inverse13 (IntKind.i64.wrap (i15 + 1)) w_92)
  | .ret z_93r => (some (.ret (z_93r.1, z_93r.2.1, z_93r.2.2.1, ()), w_92)))) else none) else (some (.norm (), w))
noncomputable def ref11_near_l3 (K : Nat) (n : Nat) : Sl → Addr → Int → Sl → Addr → Int → World → Option ((Out (Unit) (Sl × Int × Bool × Unit)) × World) := iter (fun _ _ _ _ _ _ _ => none) (ref11_near_l3_b K) n
/-- coffer/cofferref11.near -/
noncomputable def ref11_near (K : Nat) (b0 : Sl) (w : World) : Option ((Sl × Int × Bool × Unit) × World) :=
  bnd (ref11_Sums K b0 w) fun r_1 w_2 =>
  bnd (newB z60 60 w_2) fun s_3 w_4 =>
  if (r_1.1).size = 4 then ((stA s_3 r_1.1 w_4).bind fun w_5 =>
  bnd (bldV prog 60 [] w_5) fun cs_6 w_7 =>
  bnd (newB z60 60 w_7) fun zero_8 w_9 =>
  if (cs_6).size = 4 then ((stA zero_8 cs_6 w_9).bind fun w_10 =>
  (ldA 4 s_3 w_10).bind fun v_11 =>
  (ldA 4 zero_8 w_10).bind fun v_12 =>
  bnd (bop prog .eql 60 (.tmp 25) (.tmp 26) (.agg v_11) (.agg v_12) w_10) fun v_13 w_14 =>
  (asB v_13).bind fun v_15 =>
  if v_15 = true then (some ((b0, 0, true, ()), w_14)) else (bnd (ref11_Powers K 255 w_14) fun r_16 w_17 =>
  bnd (ref11_near_l0 K K b0 s_3 ((b0.len : Nat) : Int) r_16.1 0 w_17) fun y_43 w_44 =>
  (match y_43 with
  | .norm z_45n => (bnd (newB z64 64 w_44) fun inverse_46 w_47 =>
  bnd (ref11_near_l2 K K b0 s_3 ((b0.len : Nat) : Int) r_16.1 inverse_46 0 w_47) fun y_53 w_54 =>
  bnd (ref11_near_l3 K K b0 s_3 ((b0.len : Nat) : Int) r_16.1 inverse_46 0 w_54) fun y_94 w_95 =>
  (match y_94 with
  | .norm z_96n => (some ((⟨none, 0, 0⟩, 0, false, ()), w_95))
  | .ret z_96r => (some ((z_96r.1, z_96r.2.1, z_96r.2.2.1, ()), w_95))))
  | .ret z_45r => (some ((z_45r.1, z_45r.2.1, z_45r.2.2.1, ()), w_44))))) else none) else none
theorem ref11_near_s1_ok (K : Nat) : StmtNOk prog [(5, .addr), (11, .int .u8), (12, .int .u8)] [(86, .bool)] [(60, 87)] (fun x w => ref11_near_s1 K x.1 x.2.1 x.2.2.1 w) (cd (bodyOf f21) [1, 1, 1, 1, 1, 1, 0, 1, 0, 0, 1, 0, 0, 1, 1, 1, 1, 0]) :=
    mk_stmtN (O := tabL []) (root := (bodyOf f21)) (π := [1, 1, 1, 1, 1, 1, 0, 1, 0, 0, 1, 0, 0, 1, 1, 1, 1, 0]) (Li := [(5, .addr), (11, .int .u8), (12, .int .u8)]) (Lo := [(86, .bool)]) (S := (fun x w => ref11_near_s1 K x.1 x.2.1 x.2.2.1 w)) (ref11_near_Eok K) (ref11_near_Rok K) rfl (Orc.nil _ _ _) (by kernel_rfl) (fun _ _ => by kernel_rfl)
noncomputable def ref11_near_s1_se (K : Nat) : SE := stmtN [(5, .addr), (11, .int .u8), (12, .int .u8)] [(86, .bool)] [(60, 87)] (fun x w => ref11_near_s1 K x.1 x.2.1 x.2.2.1 w)
theorem ref11_near_s1_se_ok (K : Nat) (R : Rg) (h : subRB [(60, 87)] R = true) : (ref11_near_s1_se K).Ok prog R (cd (bodyOf f21) [1, 1, 1, 1, 1, 1, 0, 1, 0, 0, 1, 0, 0, 1, 1, 1, 1, 0]) := stmtN_ok (Li := [(5, .addr), (11, .int .u8), (12, .int .u8)]) (Lo := [(86, .bool)]) (S := (fun x w => ref11_near_s1 K x.1 x.2.1 x.2.2.1 w)) (ref11_near_s1_ok K) (subR_of h)
theorem ref11_near_l0_ok (K : Nat) (n : Nat) : StmtOk prog [(0, .sl), (5, .addr), (7, .int .i64), (8, .sl), (9, .int .i64)] [] [(2, .sl), (3, .int .i64), (4, .bool)] [(2, 5), (9, 13), (32, 91)] ((fun n x w => ref11_near_l0 K n x.1 x.2.1 x.2.2.1 x.2.2.2.1 x.2.2.2.2.1 w) n) (.block 0 (.loop (cd (bodyOf f21) [1, 1, 1, 1, 1, 1, 0, 1, 0, 0]))) :=
    mk_loop (O := tabL [([1, 1, 1, 1, 1, 1, 0, 1, 0, 0, 1, 0, 0, 1, 1, 1, 1, 0], ref11_near_s1_se K)]) (root := (bodyOf f21)) (π := [1, 1, 1, 1, 1, 1, 0, 1, 0, 0]) (id := 0) (Li := [(0, .sl), (5, .addr), (7, .int .i64), (8, .sl), (9, .int .i64)]) (Lo := []) (Lr := [(2, .sl), (3, .int .i64), (4, .bool)]) (S := (fun n x w => ref11_near_l0 K n x.1 x.2.1 x.2.2.1 x.2.2.2.1 x.2.2.2.2.1 w)) (body := cd (bodyOf f21) [1, 1, 1, 1, 1, 1, 0, 1, 0, 0]) (ref11_near_Eok K) (ref11_near_Rok K) rfl (Orc.cons (by kernel_rfl) (ref11_near_s1_se_ok K [(2, 5), (9, 13), (32, 91)] (by kernel_rfl)) (Orc.nil _ _ _)) (by kernel_rfl) (fun _ _ => by kernel_rfl) (fun _ _ _ => by kernel_rfl) n
noncomputable def ref11_near_l0_se (K : Nat) : SE := stmt [(0, .sl), (5, .addr), (7, .int .i64), (8, .sl), (9, .int .i64)] [] [(2, .sl), (3, .int .i64), (4, .bool)] [(2, 5), (9, 13), (32, 91)] (fun x w => ref11_near_l0 K K x.1 x.2.1 x.2.2.1 x.2.2.2.1 x.2.2.2.2.1 w)
theorem ref11_near_l0_se_ok (K : Nat) (R : Rg) (h : subRB [(2, 5), (9, 13), (32, 91)] R = true) : (ref11_near_l0_se K).Ok prog R (.block 0 (.loop (cd (bodyOf f21) [1, 1, 1, 1, 1, 1, 0, 1, 0, 0]))) := stmt_ok (Li := [(0, .sl), (5, .addr), (7, .int .i64), (8, .sl), (9, .int .i64)]) (Lo := []) (Lr := [(2, .sl), (3, .int .i64), (4, .bool)]) (S := (fun x w => ref11_near_l0 K K x.1 x.2.1 x.2.2.1 x.2.2.2.1 x.2.2.2.2.1 w)) (ref11_near_l0_ok K K) (subR_of h)
theorem ref11_near_l2_ok (K : Nat) (n : Nat) : StmtNOk prog [(0, .sl), (5, .addr), (7, .int .i64), (8, .sl), (13, .addr), (14, .int .i64)] [] [(14, 15), (91, 106)] ((fun n x w => ref11_near_l2 K n x.1 x.2.1 x.2.2.1 x.2.2.2.1 x.2.2.2.2.1 x.2.2.2.2.2.1 w) n) (.block 2 (.loop (cd (bodyOf f21) [1, 1, 1, 1, 1, 1, 1, 1, 0, 1, 0, 0]))) :=
    mk_loopN (O := tabL []) (root := (bodyOf f21)) (π := [1, 1, 1, 1, 1, 1, 1, 1, 0, 1, 0, 0]) (id := 2) (Li := [(0, .sl), (5, .addr), (7, .int .i64), (8, .sl), (13, .addr), (14, .int .i64)]) (Lo := []) (S := (fun n x w => ref11_near_l2 K n x.1 x.2.1 x.2.2.1 x.2.2.2.1 x.2.2.2.2.1 x.2.2.2.2.2.1 w)) (body := cd (bodyOf f21) [1, 1, 1, 1, 1, 1, 1, 1, 0, 1, 0, 0]) (ref11_near_Eok K) (ref11_near_Rok K) rfl (Orc.nil _ _ _) (by kernel_rfl) (fun _ _ => by kernel_rfl) (fun _ _ _ => by kernel_rfl) n
noncomputable def ref11_near_l2_se (K : Nat) : SE := stmtN [(0, .sl), (5, .addr), (7, .int .i64), (8, .sl), (13, .addr), (14, .int .i64)] [] [(14, 15), (91, 106)] (fun x w => ref11_near_l2 K K x.1 x.2.1 x.2.2.1 x.2.2.2.1 x.2.2.2.2.1 x.2.2.2.2.2.1 w)
theorem ref11_near_l2_se_ok (K : Nat) (R : Rg) (h : subRB [(14, 15), (91, 106)] R = true) : (ref11_near_l2_se K).Ok prog R (.block 2 (.loop (cd (bodyOf f21) [1, 1, 1, 1, 1, 1, 1, 1, 0, 1, 0, 0]))) := stmtN_ok (Li := [(0, .sl), (5, .addr), (7, .int .i64), (8, .sl), (13, .addr), (14, .int .i64)]) (Lo := []) (S := (fun x w => ref11_near_l2 K K x.1 x.2.1 x.2.2.1 x.2.2.2.1 x.2.2.2.2.1 x.2.2.2.2.2.1 w)) (ref11_near_l2_ok K K) (subR_of h)
theorem ref11_near_s5_ok (K : Nat) : StmtNOk prog [(5, .addr), (16, .int .u8), (18, .int .u8), (19, .int .u8), (20, .int .u8)] [(190, .bool)] [(149, 191)] (fun x w => ref11_near_s5 K x.1 x.2.1 x.2.2.1 x.2.2.2.1 x.2.2.2.2.1 w) (cd (bodyOf f21) [1, 1, 1, 1, 1, 1, 1, 1, 1, 0, 1, 0, 0, 1, 0, 0, 1, 1, 0, 0, 1, 0, 0, 1, 1, 1, 0, 0]) :=
    mk_stmtN (O := tabL []) (root := (bodyOf f21)) (π := [1, 1, 1, 1, 1, 1, 1, 1, 1, 0, 1, 0, 0, 1, 0, 0, 1, 1, 0, 0, 1, 0, 0, 1, 1, 1, 0, 0]) (Li := [(5, .addr), (16, .int .u8), (18, .int .u8), (19, .int .u8), (20, .int .u8)]) (Lo := [(190, .bool)]) (S := (fun x w => ref11_near_s5 K x.1 x.2.1 x.2.2.1 x.2.2.2.1 x.2.2.2.2.1 w)) (ref11_near_Eok K) (ref11_near_Rok K) rfl (Orc.nil _ _ _) (by kernel_rfl) (fun _ _ => by kernel_rfl)
noncomputable def ref11_near_s5_se (K : Nat) : SE := stmtN [(5, .addr), (16, .int .u8), (18, .int .u8), (19, .int .u8), (20, .int .u8)] [(190, .bool)] [(149, 191)] (fun x w => ref11_near_s5 K x.1 x.2.1 x.2.2.1 x.2.2.2.1 x.2.2.2.2.1 w)
theorem ref11_near_s5_se_ok (K : Nat) (R : Rg) (h : subRB [(149, 191)] R = true) : (ref11_near_s5_se K).Ok prog R (cd (bodyOf f21) [1, 1, 1, 1, 1, 1, 1, 1, 1, 0, 1, 0, 0, 1, 0, 0, 1, 1, 0, 0, 1, 0, 0, 1, 1, 1, 0, 0]) := stmtN_ok (Li := [(5, .addr), (16, .int .u8), (18, .int .u8), (19, .int .u8), (20, .int .u8)]) (Lo := [(190, .bool)]) (S := (fun x w => ref11_near_s5 K x.1 x.2.1 x.2.2.1 x.2.2.2.1 x.2.2.2.2.1 w)) (ref11_near_s5_ok K) (subR_of h)
theorem ref11_near_l4_ok (K : Nat) (n : Nat) : StmtOk prog [(0, .sl), (5, .addr), (7, .int .i64), (8, .sl), (13, .addr), (15, .int .i64), (16, .int .u8), (17, .int .i64)] [] [(2, .sl), (3, .int .i64), (4, .bool)] [(2, 5), (17, 22), (120, 213)] ((fun n x w => ref11_near_l4 K n x.1 x.2.1 x.2.2.1 x.2.2.2.1 x.2.2.2.2.1 x.2.2.2.2.2.1 x.2.2.2.2.2.2.1 x.2.2.2.2.2.2.2.1 w) n) (.block 6 (.loop (cd (bodyOf f21) [1, 1, 1, 1, 1, 1, 1, 1, 1, 0, 1, 0, 0, 1, 0, 0, 1, 1, 0, 0]))) :=
    mk_loop (O := tabL [([1, 1, 1, 1, 1, 1, 1, 1, 1, 0, 1, 0, 0, 1, 0, 0, 1, 1, 0, 0, 1, 0, 0, 1, 1, 1, 0, 0], ref11_near_s5_se K)]) (root := (bodyOf f21)) (π := [1, 1, 1, 1, 1, 1, 1, 1, 1, 0, 1, 0, 0, 1, 0, 0, 1, 1, 0, 0]) (id := 6) (Li := [(0, .sl), (5, .addr), (7, .int .i64), (8, .sl), (13, .addr), (15, .int .i64), (16, .int .u8), (17, .int .i64)]) (Lo := []) (Lr := [(2, .sl), (3, .int .i64), (4, .bool)]) (S := (fun n x w => ref11_near_l4 K n x.1 x.2.1 x.2.2.1 x.2.2.2.1 x.2.2.2.2.1 x.2.2.2.2.2.1 x.2.2.2.2.2.2.1 x.2.2.2.2.2.2.2.1 w)) (body := cd (bodyOf f21) [1, 1, 1, 1, 1, 1, 1, 1, 1, 0, 1, 0, 0, 1, 0, 0, 1, 1, 0, 0]) (ref11_near_Eok K) (ref11_near_Rok K) rfl (Orc.cons (by kernel_rfl) (ref11_near_s5_se_ok K [(2, 5), (17, 22), (120, 213)] (by kernel_rfl)) (Orc.nil _ _ _)) (by kernel_rfl) (fun _ _ => by kernel_rfl) (fun _ _ _ => by kernel_rfl) n
noncomputable def ref11_near_l4_se (K : Nat) : SE := stmt [(0, .sl), (5, .addr), (7, .int .i64), (8, .sl), (13, .addr), (15, .int .i64), (16, .int .u8), (17, .int .i64)] [] [(2, .sl), (3, .int .i64), (4, .bool)] [(2, 5), (17, 22), (120, 213)] (fun x w => ref11_near_l4 K K x.1 x.2.1 x.2.2.1 x.2.2.2.1 x.2.2.2.2.1 x.2.2.2.2.2.1 x.2.2.2.2.2.2.1 x.2.2.2.2.2.2.2.1 w)
theorem ref11_near_l4_se_ok (K : Nat) (R : Rg) (h : subRB [(2, 5), (17, 22), (120, 213)] R = true) : (ref11_near_l4_se K).Ok prog R (.block 6 (.loop (cd (bodyOf f21) [1, 1, 1, 1, 1, 1, 1, 1, 1, 0, 1, 0, 0, 1, 0, 0, 1, 1, 0, 0]))) := stmt_ok (Li := [(0, .sl), (5, .addr), (7, .int .i64), (8, .sl), (13, .addr), (15, .int .i64), (16, .int .u8), (17, .int .i64)]) (Lo := []) (Lr := [(2, .sl), (3, .int .i64), (4, .bool)]) (S := (fun x w => ref11_near_l4 K K x.1 x.2.1 x.2.2.1 x.2.2.2.1 x.2.2.2.2.1 x.2.2.2.2.2.1 x.2.2.2.2.2.2.1 x.2.2.2.2.2.2.2.1 w)) (ref11_near_l4_ok K K) (subR_of h)
theorem ref11_near_l3_ok (K : Nat) (n : Nat) : StmtOk prog [(0, .sl), (5, .addr), (7, .int .i64), (8, .sl), (13, .addr), (15, .int .i64)] [] [(2, .sl), (3, .int .i64), (4, .bool)] [(2, 5), (15, 22), (106, 213)] ((fun n x w => ref11_near_l3 K n x.1 x.2.1 x.2.2.1 x.2.2.2.1 x.2.2.2.2.1 x.2.2.2.2.2.1 w) n) (.block 4 (.loop (cd (bodyOf f21) [1, 1, 1, 1, 1, 1, 1, 1, 1, 0, 1, 0, 0]))) :=
    mk_loop (O := tabL [([1, 1, 1, 1, 1, 1, 1, 1, 1, 0, 1, 0, 0, 1, 0, 0, 1, 1], ref11_near_l4_se K), ([1, 1, 1, 1, 1, 1, 1, 1, 1, 0, 1, 0, 0, 1, 0, 0, 1, 1, 0, 0, 1, 0, 0, 1, 1, 1, 0, 0], ref11_near_s5_se K)]) (root := (bodyOf f21)) (π := [1, 1, 1, 1, 1, 1, 1, 1, 1, 0, 1, 0, 0]) (id := 4) (Li := [(0, .sl), (5, .addr), (7, .int .i64), (8, .sl), (13, .addr), (15, .int .i64)]) (Lo := []) (Lr := [(2, .sl), (3, .int .i64), (4, .bool)]) (S := (fun n x w => ref11_near_l3 K n x.1 x.2.1 x.2.2.1 x.2.2.2.1 x.2.2.2.2.1 x.2.2.2.2.2.1 w)) (body := cd (bodyOf f21) [1, 1, 1, 1, 1, 1, 1, 1, 1, 0, 1, 0, 0]) (ref11_near_Eok K) (ref11_near_Rok K) rfl (Orc.cons (by kernel_rfl) (ref11_near_l4_se_ok K [(2, 5), (15, 22), (106, 213)] (by kernel_rfl)) (Orc.cons (by kernel_rfl) (ref11_near_s5_se_ok K [(2, 5), (15, 22), (106, 213)] (by kernel_rfl)) (Orc.nil _ _ _))) (by kernel_rfl) (fun _ _ => by kernel_rfl) (fun _ _ _ => by kernel_rfl) n
noncomputable def ref11_near_l3_se (K : Nat) : SE := stmt [(0, .sl), (5, .addr), (7, .int .i64), (8, .sl), (13, .addr), (15, .int .i64)] [] [(2, .sl), (3, .int .i64), (4, .bool)] [(2, 5), (15, 22), (106, 213)] (fun x w => ref11_near_l3 K K x.1 x.2.1 x.2.2.1 x.2.2.2.1 x.2.2.2.2.1 x.2.2.2.2.2.1 w)
theorem ref11_near_l3_se_ok (K : Nat) (R : Rg) (h : subRB [(2, 5), (15, 22), (106, 213)] R = true) : (ref11_near_l3_se K).Ok prog R (.block 4 (.loop (cd (bodyOf f21) [1, 1, 1, 1, 1, 1, 1, 1, 1, 0, 1, 0, 0]))) := stmt_ok (Li := [(0, .sl), (5, .addr), (7, .int .i64), (8, .sl), (13, .addr), (15, .int .i64)]) (Lo := []) (Lr := [(2, .sl), (3, .int .i64), (4, .bool)]) (S := (fun x w => ref11_near_l3 K K x.1 x.2.1 x.2.2.1 x.2.2.2.1 x.2.2.2.2.1 x.2.2.2.2.2.1 w)) (ref11_near_l3_ok K K) (subR_of h)
theorem ref11_near_facts : FunFacts prog 21 f21 (bodyOf f21) [(0, .sl)] [(0, 213)] := ⟨func21, by kernel_rfl, by kernel_rfl, by kernel_rfl, by kernel_rfl, by kernel_rfl⟩
theorem ref11_near_calls (K : Nat) (x : TT [(0, .sl)]) (w : World) (y : TR [.sl, .int .i64, .bool]) (w2 : World) (h : ref11_near K x.1 w = some (y, w2)) : Calls prog 21 (encA [(0, .sl)] x).toArray w (fun e w3 => e = .returned (resV (encR [.sl, .int .i64, .bool] y)) ∧ w3 = w2) :=
    mk_fun (O := tabL [([1, 1, 1, 1, 1, 1, 0, 1], ref11_near_l0_se K), ([1, 1, 1, 1, 1, 1, 0, 1, 0, 0, 1, 0, 0, 1, 1, 1, 1, 0], ref11_near_s1_se K), ([1, 1, 1, 1, 1, 1, 1, 1, 0, 1], ref11_near_l2_se K), ([1, 1, 1, 1, 1, 1, 1, 1, 1, 0, 1], ref11_near_l3_se K), ([1, 1, 1, 1, 1, 1, 1, 1, 1, 0, 1, 0, 0, 1, 0, 0, 1, 1], ref11_near_l4_se K), ([1, 1, 1, 1, 1, 1, 1, 1, 1, 0, 1, 0, 0, 1, 0, 0, 1, 1, 0, 0, 1, 0, 0, 1, 1, 1, 0, 0], ref11_near_s5_se K)]) (Lp := [(0, .sl)]) (Rt := [.sl, .int .i64, .bool]) (S := (fun x w => ref11_near K x.1 w)) (ref11_near_Eok K) (ref11_near_Rok K) rfl ref11_near_facts (Orc.cons (by kernel_rfl) (ref11_near_l0_se_ok K [(0, 213)] (by kernel_rfl)) (Orc.cons (by kernel_rfl) (ref11_near_s1_se_ok K [(0, 213)] (by kernel_rfl)) (Orc.cons (by kernel_rfl) (ref11_near_l2_se_ok K [(0, 213)] (by kernel_rfl)) (Orc.cons (by kernel_rfl) (ref11_near_l3_se_ok K [(0, 213)] (by kernel_rfl)) (Orc.cons (by kernel_rfl) (ref11_near_l4_se_ok K [(0, 213)] (by kernel_rfl)) (Orc.cons (by kernel_rfl) (ref11_near_s5_se_ok K [(0, 213)] (by kernel_rfl)) (Orc.nil _ _ _))))))) (fun _ _ => by kernel_rfl) x w y w2 h
noncomputable def ref11_near_ce (K : Nat) : CE := funE [(0, .sl)] [.sl, .int .i64, .bool] (fun x w => ref11_near K x.1 w)
theorem ref11_near_ok (K : Nat) : (ref11_near_ce K).Ok prog 21 := funE_ok (Rt := [.sl, .int .i64, .bool]) (S := (fun x w => ref11_near K x.1 w)) ref11_near_facts fun x w y w2 h => ref11_near_calls K x w y w2 h

noncomputable def ref11_over_R (K : Nat) : List (Nat × RE) := [(30, ref11_times_re K)]
theorem ref11_over_Rok (K : Nat) : REnv.Ok prog (tab (ref11_over_R K)) := (REnv.cons (ref11_times_ok K) (REnv.nil _))
noncomputable def ref11_over_l0_b (K : Nat) (rec : Int → Int → Int → Option (Out (Unit) (Int × Unit))) (a0 : Int) (b1 : Int) (v5 : Int) : Option (Out (Unit) (Int × Unit)) :=
  if (decide (v5 < 256)) = true then ((ref11_times K (IntKind.u8.wrap v5) b1).bind fun r_1 =>
  if (r_1.1 == a0) = true then (some (.ret ((IntKind.u8.wrap v5), ()))) else (rec a0 b1 (IntKind.i64.wrap (v5 + 1)))) else (some (.norm ()))
noncomputable def ref11_over_l0 (K : Nat) (n : Nat) : Int → Int → Int → Option (Out (Unit) (Int × Unit)) := iter (fun _ _ _ => none) (ref11_over_l0_b K) n
/-- coffer/cofferref11.over -/
noncomputable def ref11_over (K : Nat) (a0 : Int) (b1 : Int) : Option (Int × Unit) :=
  (ref11_over_l0 K K a0 b1 0).bind fun y_2 =>
  (match y_2 with
  | .norm z_3n => (some (0, ()))
  | .ret z_3r => (some (z_3r.1, ())))
theorem ref11_over_l0_ok (K : Nat) (n : Nat) : StmtQOk prog [(0, .int .u8), (1, .int .u8), (5, .int .i64)] [] [(4, .int .u8)] [(4, 18)] ((fun n x w => ref11_over_l0 K n x.1 x.2.1 x.2.2.1) n) (.block 0 (.loop (cd (bodyOf f46) [1, 0, 1, 0, 0]))) :=
    mk_loopQ (O := tabL []) (root := (bodyOf f46)) (π := [1, 0, 1, 0, 0]) (id := 0) (Li := [(0, .int .u8), (1, .int .u8), (5, .int .i64)]) (Lo := []) (Lr := [(4, .int .u8)]) (S := (fun n x w => ref11_over_l0 K n x.1 x.2.1 x.2.2.1)) (body := cd (bodyOf f46) [1, 0, 1, 0, 0]) (ref11_over_Rok K) (OrcQ.nil _ _ _) (by kernel_rfl) (fun _ _ => by kernel_rfl) (fun _ _ _ => by kernel_rfl) n
noncomputable def ref11_over_l0_se (K : Nat) : SQ := stmtQ [(0, .int .u8), (1, .int .u8), (5, .int .i64)] [] [(4, .int .u8)] [(4, 18)] (fun x w => ref11_over_l0 K K x.1 x.2.1 x.2.2.1)
theorem ref11_over_l0_se_ok (K : Nat) (R : Rg) (h : subRB [(4, 18)] R = true) : (ref11_over_l0_se K).Ok prog R (.block 0 (.loop (cd (bodyOf f46) [1, 0, 1, 0, 0]))) := stmtQ_ok (Li := [(0, .int .u8), (1, .int .u8), (5, .int .i64)]) (Lo := []) (Lr := [(4, .int .u8)]) (S := (fun x w => ref11_over_l0 K K x.1 x.2.1 x.2.2.1)) (ref11_over_l0_ok K K) (subR_of h)
theorem ref11_over_facts : FunFacts prog 46 f46 (bodyOf f46) [(0, .int .u8), (1, .int .u8)] [(0, 18)] := ⟨func46, by kernel_rfl, by kernel_rfl, by kernel_rfl, by kernel_rfl, by kernel_rfl⟩
theorem ref11_over_calls (K : Nat) (x : TT [(0, .int .u8), (1, .int .u8)]) (w : World) (y : TR [.int .u8]) (h : ref11_over K x.1 x.2.1 = some y) : Calls prog 46 (encA [(0, .int .u8), (1, .int .u8)] x).toArray w (fun e w3 => e = .returned (resV (encR [.int .u8] y)) ∧ w3 = w) :=
    mk_funQ (O := tabL [([1, 0, 1], ref11_over_l0_se K)]) (Lp := [(0, .int .u8), (1, .int .u8)]) (Rt := [.int .u8]) (S := (fun x w => ref11_over K x.1 x.2.1)) (ref11_over_Rok K) ref11_over_facts (OrcQ.cons (by kernel_rfl) (ref11_over_l0_se_ok K [(0, 18)] (by kernel_rfl)) (OrcQ.nil _ _ _)) (fun _ _ => by kernel_rfl) x w y h
noncomputable def ref11_over_re (K : Nat) : RE := funR [(0, .int .u8), (1, .int .u8)] [.int .u8] (fun x w => ref11_over K x.1 x.2.1)
theorem ref11_over_ok (K : Nat) : (ref11_over_re K).Ok prog 46 := funR_ok (Rt := [.int .u8]) (S := (fun x w => ref11_over K x.1 x.2.1)) ref11_over_facts fun x w y h => ref11_over_calls K x w y h

noncomputable def ref11_Solve_E (K : Nat) : List (Nat × CE) := []
theorem ref11_Solve_Eok (K : Nat) : Env.Ok prog (tab (ref11_Solve_E K)) := (Env.nil _)
noncomputable def ref11_Solve_R (K : Nat) : List (Nat × RE) := [(46, ref11_over_re K), (30, ref11_times_re K)]
theorem ref11_Solve_Rok (K : Nat) : REnv.Ok prog (tab (ref11_Solve_R K)) := (REnv.cons (ref11_over_ok K) (REnv.cons (ref11_times_ok K) (REnv.nil _)))
noncomputable def ref11_Solve_l0_b (K : Nat) (rec : Sl → Int → Sl → Int → World → Option ((Sl × Unit) × World)) (m0 : Sl) (n4 : Int) (rows5 : Sl) (i6 : Int) (w : World) : Option ((Sl × Unit) × World) :=
  if (decide (i6 < ((m0.len : Nat) : Int))) = true then (bnd (bldS prog 25 0 #[] w) fun s_3 w_4 =>
  (m0.a).bind fun p_5 =>
  if (0 : Int) ≤ i6 ∧ i6 < ((m0.len : Nat) : Int) then ((ldS (p_5.add ((Int.toNat i6) * 1)) w_4).bind fun v_6 =>
  bnd (apd prog 25 25 (.slice s_3.a s_3.len s_3.cap) (.slice v_6.a v_6.len v_6.cap) w_4) fun s_7 w_8 =>
  bnd (bldS prog 68 1 #[(0, (.slice s_7.a s_7.len s_7.cap))] w_8) fun s_9 w_10 =>
  bnd (apd prog 68 68 (.slice rows5.a rows5.len rows5.cap) (.slice s_9.a s_9.len s_9.cap) w_10) fun s_11 w_12 =>
  rec m0 n4 s_11 (IntKind.i64.wrap (i6 + 1)) w_12) else none) else (some ((rows5, ()), w))
noncomputable def ref11_Solve_l0 (K : Nat) (n : Nat) : Sl → Int → Sl → Int → World → Option ((Sl × Unit) × World) := iter (fun _ _ _ _ _ => none) (ref11_Solve_l0_b K) n
noncomputable def ref11_Solve_s3 (K : Nat) (rows5 : Sl) (at9 : Int) (i10 : Int) (w : World) : Option ((Bool × Unit) × World) :=
  if (decide (i10 < ((rows5.len : Nat) : Int))) = true then (some (((decide (at9 < 0)), ()), w)) else (some ((false, ()), w))
noncomputable def ref11_Solve_l2_b (K : Nat) (rec : Int → Sl → Sl → Int → Int → Int → World → Option ((Int × Unit) × World)) (n4 : Int) (rows5 : Sl) (x7 : Sl) (c8 : Int) (at9 : Int) (i10 : Int) (w : World) : Option ((Int × Unit) × World) :=
  bnd (ref11_Solve_s3 K rows5 at9 i10 w) fun y_19 w_20 =>
  if y_19.1 = true then ((rows5.a).bind fun p_21 =>
  if (0 : Int) ≤ i10 ∧ i10 < ((rows5.len : Nat) : Int) then ((ldS (p_21.add ((Int.toNat i10) * 1)) w_20).bind fun v_22 =>
  (v_22.a).bind fun p_23 =>
  if (0 : Int) ≤ c8 ∧ c8 < ((v_22.len : Nat) : Int) then ((ldI .u8 (p_23.add ((Int.toNat c8) * 1)) w_20).bind fun v_24 =>
  if (v_24 != 0) = true then (rec n4 rows5 x7 c8 i10 (IntKind.i64.wrap (i10 + 1)) w_20) else (rec n4 rows5 x7 c8 at9 (IntKind.i64.wrap (i10 + 1)) w_20)) else none) else none) else (some ((at9, ()), w_20))
noncomputable def ref11_Solve_l2 (K : Nat) (n : Nat) : Int → Sl → Sl → Int → Int → Int → World → Option ((Int × Unit) × World) := iter (fun _ _ _ _ _ _ _ => none) (ref11_Solve_l2_b K) n
noncomputable def ref11_Solve_l4_b (K : Nat) (rec : Int → Sl → Sl → Int → Int → Int → World → Option ((Unit) × World)) (n4 : Int) (rows5 : Sl) (x7 : Sl) (c8 : Int) (by11 : Int) (k12 : Int) (w : World) : Option ((Unit) × World) :=
  if (decide (k12 ≤ n4)) = true then ((rows5.a).bind fun p_40 =>
  if (0 : Int) ≤ c8 ∧ c8 < ((rows5.len : Nat) : Int) then ((rows5.a).bind fun p_41 =>
  if (0 : Int) ≤ c8 ∧ c8 < ((rows5.len : Nat) : Int) then ((ldS (p_40.add ((Int.toNat c8) * 1)) w.drew).bind fun v_42 =>
  (ldS (p_41.add ((Int.toNat c8) * 1)) w.drew).bind fun v_43 =>
  (v_43.a).bind fun p_44 =>
  if (0 : Int) ≤ k12 ∧ k12 < ((v_43.len : Nat) : Int) then ((ldI .u8 (p_44.add ((Int.toNat k12) * 1)) w.drew).bind fun v_45 =>
  (ref11_times K v_45 by11).bind fun r_46 =>
  (v_42.a).bind fun p_47 =>
  if (0 : Int) ≤ k12 ∧ k12 < ((v_42.len : Nat) : Int) then ((stC (p_47.add ((Int.toNat k12) * 1)) (.int .u8 r_46.1) w.drew).bind fun w_48 =>
  rec n4 rows5 x7 c8 by11 (IntKind.i64.wrap (k12 + 1)) w_48) else none) else none) else none) else none) else (some ((), w))
noncomputable def ref11_Solve_l4 (K : Nat) (n : Nat) : Int → Sl → Sl → Int → Int → Int → World → Option ((Unit) × World) := iter (fun _ _ _ _ _ _ _ => none) (ref11_Solve_l4_b K) n
noncomputable def ref11_Solve_s6 (K : Nat) (rows5 : Sl) (c8 : Int) (i13 : Int) (w : World) : Option ((Bool × Unit) × World) :=
  if (i13 == c8) = true then (some ((true, ()), w)) else ((rows5.a).bind fun p_51 =>
  if (0 : Int) ≤ i13 ∧ i13 < ((rows5.len : Nat) : Int) then ((ldS (p_51.add ((Int.toNat i13) * 1)) w).bind fun v_52 =>
  (v_52.a).bind fun p_53 =>
  if (0 : Int) ≤ c8 ∧ c8 < ((v_52.len : Nat) : Int) then ((ldI .u8 (p_53.add ((Int.toNat c8) * 1)) w).bind fun v_54 =>
  some (((v_54 == 0), ()), w)) else none) else none)
noncomputable def ref11_Solve_l7_b (K : Nat) (rec : Int → Sl → Sl → Int → Int → Int → Int → World → Option ((Unit) × World)) (n4 : Int) (rows5 : Sl) (x7 : Sl) (c8 : Int) (i13 : Int) (f14 : Int) (k15 : Int) (w : World) : Option ((Unit) × World) :=
  if (decide (k15 ≤ n4)) = true then ((rows5.a).bind fun p_61 =>
  if (0 : Int) ≤ i13 ∧ i13 < ((rows5.len : Nat) : Int) then ((rows5.a).bind fun p_62 =>
  if (0 : Int) ≤ i13 ∧ i13 < ((rows5.len : Nat) : Int) then ((rows5.a).bind fun p_63 =>
  if (0 : Int) ≤ c8 ∧ c8 < ((rows5.len : Nat) : Int) then ((ldS (p_61.add ((Int.toNat i13) * 1)) w.drew).bind fun v_64 =>
  (ldS (p_62.add ((Int.toNat i13) * 1)) w.drew).bind fun v_65 =>
  (v_65.a).bind fun p_66 =>
  if (0 : Int) ≤ k15 ∧ k15 < ((v_65.len : Nat) : Int) then ((ldI .u8 (p_66.add ((Int.toNat k15) * 1)) w.drew).bind fun v_67 =>
  (ldS (p_63.add ((Int.toNat c8) * 1)) w.drew).bind fun v_68 =>
  (v_68.a).bind fun p_69 =>
  if (0 : Int) ≤ k15 ∧ k15 < ((v_68.len : Nat) : Int) then ((ldI .u8 (p_69.add ((Int.toNat k15) * 1)) w.drew).bind fun v_70 =>
  (ref11_times K f14 v_70).bind fun r_71 =>
  (v_64.a).bind fun p_72 =>
  if (0 : Int) ≤ k15 ∧ k15 < ((v_64.len : Nat) : Int) then ((stC (p_72.add ((Int.toNat k15) * 1)) (.int .u8 (bits .xor .u8 v_67 r_71.1)) w.drew).bind fun w_73 =>
  rec n4 rows5 x7 c8 i13 f14 (IntKind.i64.wrap (k15 + 1)) w_73) else none) else none) else none) else none) else none) else none) else (some ((), w))
noncomputable def ref11_Solve_l7 (K : Nat) (n : Nat) : Int → Sl → Sl → Int → Int → Int → Int → World → Option ((Unit) × World) := iter (fun _ _ _ _ _ _ _ _ => none) (ref11_Solve_l7_b K) n
noncomputable def ref11_Solve_l5_b (K : Nat) (rec : Int → Sl → Sl → Int → Int → World → Option ((Unit) × World)) (n4 : Int) (rows5 : Sl) (x7 : Sl) (c8 : Int) (i13 : Int) (w : World) : Option ((Unit) × World) :=
  if (decide (i13 < ((rows5.len : Nat) : Int))) = true then (bnd (ref11_Solve_s6 K rows5 c8 i13 w) fun y_55 w_56 =>
  if y_55.1 = true then (rec n4 rows5 x7 c8 (IntKind.i64.wrap (i13 + 1)) w_56) else ((rows5.a).bind fun p_57 =>
  if (0 : Int) ≤ i13 ∧ i13 < ((rows5.len : Nat) : Int) then ((ldS (p_57.add ((Int.toNat i13) * 1)) w_56).bind fun v_58 =>
  (v_58.a).bind fun p_59 =>
  if (0 : Int) ≤ c8 ∧ c8 < ((v_58.len : Nat) : Int) then ((ldI .u8 (p_59.add ((Int.toNat c8) * 1)) w_56).bind fun v_60 =>
  bnd (ref11_Solve_l7 K K n4 rows5 x7 c8 i13 v_60 0 w_56) fun y_74 w_75 =>
  rec n4 rows5 x7 c8 (IntKind.i64.wrap (i13 + 1)) w_75) else none) else none)) else (some ((), w))
noncomputable def ref11_Solve_l5 (K : Nat) (n : Nat) : Int → Sl → Sl → Int → Int → World → Option ((Unit) × World) := iter (fun _ _ _ _ _ _ => none) (ref11_Solve_l5_b K) n
noncomputable def ref11_Solve_l1_b (K : Nat) (rec : Int → Sl → Sl → Int → World → Option ((Out (Sl × Unit) (Sl × Bool × Unit)) × World)) (n4 : Int) (rows5 : Sl) (x7 : Sl) (c8 : Int) (w : World) : Option ((Out (Sl × Unit) (Sl × Bool × Unit)) × World) :=
  if (decide (c8 < n4)) = true then (bnd (bldS prog 25 1 #[(0, (.int .u8 0))] w) fun s_15 w_16 =>
  bnd (apd prog 25 25 (.slice x7.a x7.len x7.cap) (.slice s_15.a s_15.len s_15.cap) w_16) fun s_17 w_18 =>
  bnd (ref11_Solve_l2 K K n4 rows5 s_17 c8 (-1) c8 w_18) fun y_25 w_26 =>
  if (decide (y_25.1 < 0)) = true then (some (.ret (⟨none, 0, 0⟩, false, ()), w_26)) else ((rows5.a).bind fun p_27 =>
  if (0 : Int) ≤ y_25.1 ∧ y_25.1 < ((rows5.len : Nat) : Int) then ((rows5.a).bind fun p_28 =>
  if (0 : Int) ≤ c8 ∧ c8 < ((rows5.len : Nat) : Int) then ((ldS (p_27.add ((Int.toNat y_25.1) * 1)) w_26.drew).bind fun v_29 =>
  (ldS (p_28.add ((Int.toNat c8) * 1)) w_26.drew).bind fun v_30 =>
  (rows5.a).bind fun p_31 =>
  if (0 : Int) ≤ c8 ∧ c8 < ((rows5.len : Nat) : Int) then ((stC (p_31.add ((Int.toNat c8) * 1)) (.slice v_29.a v_29.len v_29.cap) w_26.drew).bind fun w_32 =>
  (rows5.a).bind fun p_33 =>
  if (0 : Int) ≤ y_25.1 ∧ y_25.1 < ((rows5.len : Nat) : Int) then ((stC (p_33.add ((Int.toNat y_25.1) * 1)) (.slice v_30.a v_30.len v_30.cap) w_32).bind fun w_34 =>
  (rows5.a).bind fun p_35 =>
  if (0 : Int) ≤ c8 ∧ c8 < ((rows5.len : Nat) : Int) then ((ldS (p_35.add ((Int.toNat c8) * 1)) w_34).bind fun v_36 =>
  (v_36.a).bind fun p_37 =>
  if (0 : Int) ≤ c8 ∧ c8 < ((v_36.len : Nat) : Int) then ((ldI .u8 (p_37.add ((Int.toNat c8) * 1)) w_34).bind fun v_38 =>
  (ref11_over K 1 v_38).bind fun r_39 =>
  bnd (ref11_Solve_l4 K K n4 rows5 s_17 c8 r_39.1 0 w_34) fun y_49 w_50 =>
  bnd (ref11_Solve_l5 K K n4 rows5 s_17 c8 0 w_50) fun y_76 w_77 =>
  rec n4 rows5 s_17 (IntKind.i64.wrap (c8 + 1)) w_77) else none) else none) else none) else none) else none) else none)) else (some (.norm (x7, ()), w))
noncomputable def ref11_Solve_l1 (K : Nat) (n : Nat) : Int → Sl → Sl → Int → World → Option ((Out (Sl × Unit) (Sl × Bool × Unit)) × World) := iter (fun _ _ _ _ _ => none) (ref11_Solve_l1_b K) n
noncomputable def ref11_Solve_l8_b (K : Nat) (rec : Int → Sl → Sl → Int → World → Option ((Out (Unit) (Sl × Bool × Unit)) × World)) (n4 : Int) (rows5 : Sl) (x7 : Sl) (i16 : Int) (w : World) : Option ((Out (Unit) (Sl × Bool × Unit)) × World) :=
  if (decide (i16 < ((rows5.len : Nat) : Int))) = true then ((rows5.a).bind fun p_81 =>
  if (0 : Int) ≤ i16 ∧ i16 < ((rows5.len : Nat) : Int) then ((ldS (p_81.add ((Int.toNat i16) * 1)) w).bind fun v_82 =>
  (v_82.a).bind fun p_83 =>
  if (0 : Int) ≤ n4 ∧ n4 < ((v_82.len : Nat) : Int) then ((ldI .u8 (p_83.add ((Int.toNat n4) * 1)) w).bind fun v_84 =>
  if (v_84 != 0) = true then (some (.ret (⟨none, 0, 0⟩, false, ()), w)) else (rec n4 rows5 x7 (IntKind.i64.wrap (i16 + 1)) w)) else none) else none) else (some (.norm (), w))
noncomputable def ref11_Solve_l8 (K : Nat) (n : Nat) : Int → Sl → Sl → Int → World → Option ((Out (Unit) (Sl × Bool × Unit)) × World) := iter (fun _ _ _ _ _ => none) (ref11_Solve_l8_b K) n
noncomputable def ref11_Solve_l9_b (K : Nat) (rec : Int → Sl → Sl → Int → World → Option ((Unit) × World)) (n4 : Int) (rows5 : Sl) (x7 : Sl) (c17 : Int) (w : World) : Option ((Unit) × World) :=
  if (decide (c17 < n4)) = true then ((rows5.a).bind fun p_88 =>
  if (0 : Int) ≤ c17 ∧ c17 < ((rows5.len : Nat) : Int) then ((ldS (p_88.add ((Int.toNat c17) * 1)) w).bind fun v_89 =>
  (v_89.a).bind fun p_90 =>
  if (0 : Int) ≤ n4 ∧ n4 < ((v_89.len : Nat) : Int) then ((ldI .u8 (p_90.add ((Int.toNat n4) * 1)) w).bind fun v_91 =>
  (x7.a).bind fun p_92 =>
  if (0 : Int) ≤ c17 ∧ c17 < ((x7.len : Nat) : Int) then ((stC (p_92.add ((Int.toNat c17) * 1)) (.int .u8 v_91) w).bind fun w_93 =>
  rec n4 rows5 x7 (IntKind.i64.wrap (c17 + 1)) w_93) else none) else none) else none) else (some ((), w))
noncomputable def ref11_Solve_l9 (K : Nat) (n : Nat) : Int → Sl → Sl → Int → World → Option ((Unit) × World) := iter (fun _ _ _ _ _ => none) (ref11_Solve_l9_b K) n
/-- coffer/cofferref11.Solve -/
noncomputable def ref11_Solve (K : Nat) (m0 : Sl) (w : World) : Option ((Sl × Bool × Unit) × World) :=
  if (((m0.len : Nat) : Int) == 0) = true then (some ((⟨none, 0, 0⟩, true, ()), w)) else ((m0.a).bind fun p_1 =>
  if (0 : Int) ≤ 0 ∧ 0 < ((m0.len : Nat) : Int) then ((ldS (p_1.add (0 * 1)) w).bind fun v_2 =>
  bnd (ref11_Solve_l0 K K m0 (IntKind.i64.wrap (((v_2.len : Nat) : Int) - 1)) ⟨none, 0, 0⟩ 0 w) fun y_13 w_14 =>
  bnd (ref11_Solve_l1 K K (IntKind.i64.wrap (((v_2.len : Nat) : Int) - 1)) y_13.1 ⟨none, 0, 0⟩ 0 w_14) fun y_78 w_79 =>
  (match y_78 with
  | .norm z_80n => (bnd (ref11_Solve_l8 K K (IntKind.i64.wrap (((v_2.len : Nat) : Int) - 1)) y_13.1 z_80n.1 (IntKind.i64.wrap (((v_2.len : Nat) : Int) - 1)) w_79) fun y_85 w_86 =>
  (match y_85 with
  | .norm z_87n => (bnd (ref11_Solve_l9 K K (IntKind.i64.wrap (((v_2.len : Nat) : Int) - 1)) y_13.1 z_80n.1 0 w_86) fun y_94 w_95 =>
  some ((z_80n.1, true, ()), w_95))
  | .ret z_87r => (some ((z_87r.1, z_87r.2.1, ()), w_86))))
  | .ret z_80r => (some ((z_80r.1, z_80r.2.1, ()), w_79)))) else none)
theorem ref11_Solve_l0_ok (K : Nat) (n : Nat) : StmtNOk prog [(0, .sl), (4, .int .i64), (5, .sl), (6, .int .i64)] [(5, .sl)] [(5, 7), (26, 41)] ((fun n x w => ref11_Solve_l0 K n x.1 x.2.1 x.2.2.1 x.2.2.2.1 w) n) (.block 0 (.loop (cd (bodyOf f37) [1, 1, 1, 1, 0, 1, 0, 0]))) :=
    mk_loopN (O := tabL []) (root := (bodyOf f37)) (π := [1, 1, 1, 1, 0, 1, 0, 0]) (id := 0) (Li := [(0, .sl), (4, .int .i64), (5, .sl), (6, .int .i64)]) (Lo := [(5, .sl)]) (S := (fun n x w => ref11_Solve_l0 K n x.1 x.2.1 x.2.2.1 x.2.2.2.1 w)) (body := cd (bodyOf f37) [1, 1, 1, 1, 0, 1, 0, 0]) (ref11_Solve_Eok K) (ref11_Solve_Rok K) rfl (Orc.nil _ _ _) (by kernel_rfl) (fun _ _ => by kernel_rfl) (fun _ _ _ => by kernel_rfl) n
noncomputable def ref11_Solve_l0_se (K : Nat) : SE := stmtN [(0, .sl), (4, .int .i64), (5, .sl), (6, .int .i64)] [(5, .sl)] [(5, 7), (26, 41)] (fun x w => ref11_Solve_l0 K K x.1 x.2.1 x.2.2.1 x.2.2.2.1 w)
theorem ref11_Solve_l0_se_ok (K : Nat) (R : Rg) (h : subRB [(5, 7), (26, 41)] R = true) : (ref11_Solve_l0_se K).Ok prog R (.block 0 (.loop (cd (bodyOf f37) [1, 1, 1, 1, 0, 1, 0, 0]))) := stmtN_ok (Li := [(0, .sl), (4, .int .i64), (5, .sl), (6, .int .i64)]) (Lo := [(5, .sl)]) (S := (fun x w => ref11_Solve_l0 K K x.1 x.2.1 x.2.2.1 x.2.2.2.1 w)) (ref11_Solve_l0_ok K K) (subR_of h)
theorem ref11_Solve_s3_ok (K : Nat) : StmtNOk prog [(5, .sl), (9, .int .i64), (10, .int .i64)] [(57, .bool)] [(50, 58)] (fun x w => ref11_Solve_s3 K x.1 x.2.1 x.2.2.1 w) (cd (bodyOf f37) [1, 1, 1, 1, 1, 1, 0, 1, 0, 0, 1, 0, 0, 1, 1, 0, 1, 0, 0, 0, 0]) :=
    mk_stmtN (O := tabL []) (root := (bodyOf f37)) (π := [1, 1, 1, 1, 1, 1, 0, 1, 0, 0, 1, 0, 0, 1, 1, 0, 1, 0, 0, 0, 0]) (Li := [(5, .sl), (9, .int .i64), (10, .int .i64)]) (Lo := [(57, .bool)]) (S := (fun x w => ref11_Solve_s3 K x.1 x.2.1 x.2.2.1 w)) (ref11_Solve_Eok K) (ref11_Solve_Rok K) rfl (Orc.nil _ _ _) (by kernel_rfl) (fun _ _ => by kernel_rfl)
noncomputable def ref11_Solve_s3_se (K : Nat) : SE := stmtN [(5, .sl), (9, .int .i64), (10, .int .i64)] [(57, .bool)] [(50, 58)] (fun x w => ref11_Solve_s3 K x.1 x.2.1 x.2.2.1 w)
theorem ref11_Solve_s3_se_ok (K : Nat) (R : Rg) (h : subRB [(50, 58)] R = true) : (ref11_Solve_s3_se K).Ok prog R (cd (bodyOf f37) [1, 1, 1, 1, 1, 1, 0, 1, 0, 0, 1, 0, 0, 1, 1, 0, 1, 0, 0, 0, 0]) := stmtN_ok (Li := [(5, .sl), (9, .int .i64), (10, .int .i64)]) (Lo := [(57, .bool)]) (S := (fun x w => ref11_Solve_s3 K x.1 x.2.1 x.2.2.1 w)) (ref11_Solve_s3_ok K) (subR_of h)
theorem ref11_Solve_l2_ok (K : Nat) (n : Nat) : StmtNOk prog [(4, .int .i64), (5, .sl), (7, .sl), (8, .int .i64), (9, .int .i64), (10, .int .i64)] [(9, .int .i64)] [(9, 11), (50, 69)] ((fun n x w => ref11_Solve_l2 K n x.1 x.2.1 x.2.2.1 x.2.2.2.1 x.2.2.2.2.1 x.2.2.2.2.2.1 w) n) (.block 4 (.loop (cd (bodyOf f37) [1, 1, 1, 1, 1, 1, 0, 1, 0, 0, 1, 0, 0, 1, 1, 0, 1, 0, 0]))) :=
    mk_loopN (O := tabL [([1, 1, 1, 1, 1, 1, 0, 1, 0, 0, 1, 0, 0, 1, 1, 0, 1, 0, 0, 0, 0], ref11_Solve_s3_se K)]) (root := (bodyOf f37)) (π := [1, 1, 1, 1, 1, 1, 0, 1, 0, 0, 1, 0, 0, 1, 1, 0, 1, 0, 0]) (id := 4) (Li := [(4, .int .i64), (5, .sl), (7, .sl), (8, .int .i64), (9, .int .i64), (10, .int .i64)]) (Lo := [(9, .int .i64)]) (S := (fun n x w => ref11_Solve_l2 K n x.1 x.2.1 x.2.2.1 x.2.2.2.1 x.2.2.2.2.1 x.2.2.2.2.2.1 w)) (body := cd (bodyOf f37) [1, 1, 1, 1, 1, 1, 0, 1, 0, 0, 1, 0, 0, 1, 1, 0, 1, 0, 0]) (ref11_Solve_Eok K) (ref11_Solve_Rok K) rfl (Orc.cons (by kernel_rfl) (ref11_Solve_s3_se_ok K [(9, 11), (50, 69)] (by kernel_rfl)) (Orc.nil _ _ _)) (by kernel_rfl) (fun _ _ => by kernel_rfl) (fun _ _ _ => by kernel_rfl) n
noncomputable def ref11_Solve_l2_se (K : Nat) : SE := stmtN [(4, .int .i64), (5, .sl), (7, .sl), (8, .int .i64), (9, .int .i64), (10, .int .i64)] [(9, .int .i64)] [(9, 11), (50, 69)] (fun x w => ref11_Solve_l2 K K x.1 x.2.1 x.2.2.1 x.2.2.2.1 x.2.2.2.2.1 x.2.2.2.2.2.1 w)
theorem ref11_Solve_l2_se_ok (K : Nat) (R : Rg) (h : subRB [(9, 11), (50, 69)] R = true) : (ref11_Solve_l2_se K).Ok prog R (.block 4 (.loop (cd (bodyOf f37) [1, 1, 1, 1, 1, 1, 0, 1, 0, 0, 1, 0, 0, 1, 1, 0, 1, 0, 0]))) := stmtN_ok (Li := [(4, .int .i64), (5, .sl), (7, .sl), (8, .int .i64), (9, .int .i64), (10, .int .i64)]) (Lo := [(9, .int .i64)]) (S := (fun x w => ref11_Solve_l2 K K x.1 x.2.1 x.2.2.1 x.2.2.2.1 x.2.2.2.2.1 x.2.2.2.2.2.1 w)) (ref11_Solve_l2_ok K K) (subR_of h)
theorem ref11_Solve_l4_ok (K : Nat) (n : Nat) : StmtNOk prog [(4, .int .i64), (5, .sl), (7, .sl), (8, .int .i64), (11, .int .u8), (12, .int .i64)] [] [(12, 13), (93, 113)] ((fun n x w => ref11_Solve_l4 K n x.1 x.2.1 x.2.2.1 x.2.2.2.1 x.2.2.2.2.1 x.2.2.2.2.2.1 w) n) (.block 6 (.loop (cd (bodyOf f37) [1, 1, 1, 1, 1, 1, 0, 1, 0, 0, 1, 0, 0, 1, 1, 1, 1, 1, 1, 0, 1, 0, 0]))) :=
    mk_loopN (O := tabL []) (root := (bodyOf f37)) (π := [1, 1, 1, 1, 1, 1, 0, 1, 0, 0, 1, 0, 0, 1, 1, 1, 1, 1, 1, 0, 1, 0, 0]) (id := 6) (Li := [(4, .int .i64), (5, .sl), (7, .sl), (8, .int .i64), (11, .int .u8), (12, .int .i64)]) (Lo := []) (S := (fun n x w => ref11_Solve_l4 K n x.1 x.2.1 x.2.2.1 x.2.2.2.1 x.2.2.2.2.1 x.2.2.2.2.2.1 w)) (body := cd (bodyOf f37) [1, 1, 1, 1, 1, 1, 0, 1, 0, 0, 1, 0, 0, 1, 1, 1, 1, 1, 1, 0, 1, 0, 0]) (ref11_Solve_Eok K) (ref11_Solve_Rok K) rfl (Orc.nil _ _ _) (by kernel_rfl) (fun _ _ => by kernel_rfl) (fun _ _ _ => by kernel_rfl) n
noncomputable def ref11_Solve_l4_se (K : Nat) : SE := stmtN [(4, .int .i64), (5, .sl), (7, .sl), (8, .int .i64), (11, .int .u8), (12, .int .i64)] [] [(12, 13), (93, 113)] (fun x w => ref11_Solve_l4 K K x.1 x.2.1 x.2.2.1 x.2.2.2.1 x.2.2.2.2.1 x.2.2.2.2.2.1 w)
theorem ref11_Solve_l4_se_ok (K : Nat) (R : Rg) (h : subRB [(12, 13), (93, 113)] R = true) : (ref11_Solve_l4_se K).Ok prog R (.block 6 (.loop (cd (bodyOf f37) [1, 1, 1, 1, 1, 1, 0, 1, 0, 0, 1, 0, 0, 1, 1, 1, 1, 1, 1, 0, 1, 0, 0]))) := stmtN_ok (Li := [(4, .int .i64), (5, .sl), (7, .sl), (8, .int .i64), (11, .int .u8), (12, .int .i64)]) (Lo := []) (S := (fun x w => ref11_Solve_l4 K K x.1 x.2.1 x.2.2.1 x.2.2.2.1 x.2.2.2.2.1 x.2.2.2.2.2.1 w)) (ref11_Solve_l4_ok K K) (subR_of h)
theorem ref11_Solve_s6_ok (K : Nat) : StmtNOk prog [(5, .sl), (8, .int .i64), (13, .int .i64)] [(131, .bool)] [(119, 132)] (fun x w => ref11_Solve_s6 K x.1 x.2.1 x.2.2.1 w) (cd (bodyOf f37) [1, 1, 1, 1, 1, 1, 0, 1, 0, 0, 1, 0, 0, 1, 1, 1, 1, 1, 1, 1, 1, 0, 0, 1, 0, 0, 0, 0]) :=
    mk_stmtN (O := tabL []) (root := (bodyOf f37)) (π := [1, 1, 1, 1, 1, 1, 0, 1, 0, 0, 1, 0, 0, 1, 1, 1, 1, 1, 1, 1, 1, 0, 0, 1, 0, 0, 0, 0]) (Li := [(5, .sl), (8, .int .i64), (13, .int .i64)]) (Lo := [(131, .bool)]) (S := (fun x w => ref11_Solve_s6 K x.1 x.2.1 x.2.2.1 w)) (ref11_Solve_Eok K) (ref11_Solve_Rok K) rfl (Orc.nil _ _ _) (by kernel_rfl) (fun _ _ => by kernel_rfl)
noncomputable def ref11_Solve_s6_se (K : Nat) : SE := stmtN [(5, .sl), (8, .int .i64), (13, .int .i64)] [(131, .bool)] [(119, 132)] (fun x w => ref11_Solve_s6 K x.1 x.2.1 x.2.2.1 w)
theorem ref11_Solve_s6_se_ok (K : Nat) (R : Rg) (h : subRB [(119, 132)] R = true) : (ref11_Solve_s6_se K).Ok prog R (cd (bodyOf f37) [1, 1, 1, 1, 1, 1, 0, 1, 0, 0, 1, 0, 0, 1, 1, 1, 1, 1, 1, 1, 1, 0, 0, 1, 0, 0, 0, 0]) := stmtN_ok (Li := [(5, .sl), (8, .int .i64), (13, .int .i64)]) (Lo := [(131, .bool)]) (S := (fun x w => ref11_Solve_s6 K x.1 x.2.1 x.2.2.1 w)) (ref11_Solve_s6_ok K) (subR_of h)
theorem ref11_Solve_l7_ok (K : Nat) (n : Nat) : StmtNOk prog [(4, .int .i64), (5, .sl), (7, .sl), (8, .int .i64), (13, .int .i64), (14, .int .u8), (15, .int .i64)] [] [(15, 16), (139, 167)] ((fun n x w => ref11_Solve_l7 K n x.1 x.2.1 x.2.2.1 x.2.2.2.1 x.2.2.2.2.1 x.2.2.2.2.2.1 x.2.2.2.2.2.2.1 w) n) (.block 10 (.loop (cd (bodyOf f37) [1, 1, 1, 1, 1, 1, 0, 1, 0, 0, 1, 0, 0, 1, 1, 1, 1, 1, 1, 1, 1, 0, 0, 1, 0, 0, 1, 1, 1, 0, 0]))) :=
    mk_loopN (O := tabL []) (root := (bodyOf f37)) (π := [1, 1, 1, 1, 1, 1, 0, 1, 0, 0, 1, 0, 0, 1, 1, 1, 1, 1, 1, 1, 1, 0, 0, 1, 0, 0, 1, 1, 1, 0, 0]) (id := 10) (Li := [(4, .int .i64), (5, .sl), (7, .sl), (8, .int .i64), (13, .int .i64), (14, .int .u8), (15, .int .i64)]) (Lo := []) (S := (fun n x w => ref11_Solve_l7 K n x.1 x.2.1 x.2.2.1 x.2.2.2.1 x.2.2.2.2.1 x.2.2.2.2.2.1 x.2.2.2.2.2.2.1 w)) (body := cd (bodyOf f37) [1, 1, 1, 1, 1, 1, 0, 1, 0, 0, 1, 0, 0, 1, 1, 1, 1, 1, 1, 1, 1, 0, 0, 1, 0, 0, 1, 1, 1, 0, 0]) (ref11_Solve_Eok K) (ref11_Solve_Rok K) rfl (Orc.nil _ _ _) (by kernel_rfl) (fun _ _ => by kernel_rfl) (fun _ _ _ => by kernel_rfl) n
noncomputable def ref11_Solve_l7_se (K : Nat) : SE := stmtN [(4, .int .i64), (5, .sl), (7, .sl), (8, .int .i64), (13, .int .i64), (14, .int .u8), (15, .int .i64)] [] [(15, 16), (139, 167)] (fun x w => ref11_Solve_l7 K K x.1 x.2.1 x.2.2.1 x.2.2.2.1 x.2.2.2.2.1 x.2.2.2.2.2.1 x.2.2.2.2.2.2.1 w)
theorem ref11_Solve_l7_se_ok (K : Nat) (R : Rg) (h : subRB [(15, 16), (139, 167)] R = true) : (ref11_Solve_l7_se K).Ok prog R (.block 10 (.loop (cd (bodyOf f37) [1, 1, 1, 1, 1, 1, 0, 1, 0, 0, 1, 0, 0, 1, 1, 1, 1, 1, 1, 1, 1, 0, 0, 1, 0, 0, 1, 1, 1, 0, 0]))) := stmtN_ok (Li := [(4, .int .i64), (5, .sl), (7, .sl), (8, .int .i64), (13, .int .i64), (14, .int .u8), (15, .int .i64)]) (Lo := []) (S := (fun x w => ref11_Solve_l7 K K x.1 x.2.1 x.2.2.1 x.2.2.2.1 x.2.2.2.2.1 x.2.2.2.2.2.1 x.2.2.2.2.2.2.1 w)) (ref11_Solve_l7_ok K K) (subR_of h)
theorem ref11_Solve_l5_ok (K : Nat) (n : Nat) : StmtNOk prog [(4, .int .i64), (5, .sl), (7, .sl), (8, .int .i64), (13, .int .i64)] [] [(13, 16), (113, 167)] ((fun n x w => ref11_Solve_l5 K n x.1 x.2.1 x.2.2.1 x.2.2.2.1 x.2.2.2.2.1 w) n) (.block 8 (.loop (cd (bodyOf f37) [1, 1, 1, 1, 1, 1, 0, 1, 0, 0, 1, 0, 0, 1, 1, 1, 1, 1, 1, 1, 1, 0, 0]))) :=
    mk_loopN (O := tabL [([1, 1, 1, 1, 1, 1, 0, 1, 0, 0, 1, 0, 0, 1, 1, 1, 1, 1, 1, 1, 1, 0, 0, 1, 0, 0, 0, 0], ref11_Solve_s6_se K), ([1, 1, 1, 1, 1, 1, 0, 1, 0, 0, 1, 0, 0, 1, 1, 1, 1, 1, 1, 1, 1, 0, 0, 1, 0, 0, 1, 1, 1], ref11_Solve_l7_se K)]) (root := (bodyOf f37)) (π := [1, 1, 1, 1, 1, 1, 0, 1, 0, 0, 1, 0, 0, 1, 1, 1, 1, 1, 1, 1, 1, 0, 0]) (id := 8) (Li := [(4, .int .i64), (5, .sl), (7, .sl), (8, .int .i64), (13, .int .i64)]) (Lo := []) (S := (fun n x w => ref11_Solve_l5 K n x.1 x.2.1 x.2.2.1 x.2.2.2.1 x.2.2.2.2.1 w)) (body := cd (bodyOf f37) [1, 1, 1, 1, 1, 1, 0, 1, 0, 0, 1, 0, 0, 1, 1, 1, 1, 1, 1, 1, 1, 0, 0]) (ref11_Solve_Eok K) (ref11_Solve_Rok K) rfl (Orc.cons (by kernel_rfl) (ref11_Solve_s6_se_ok K [(13, 16), (113, 167)] (by kernel_rfl)) (Orc.cons (by kernel_rfl) (ref11_Solve_l7_se_ok K [(13, 16), (113, 167)] (by kernel_rfl)) (Orc.nil _ _ _))) (by kernel_rfl) (fun _ _ => by kernel_rfl) (fun _ _ _ => by kernel_rfl) n
noncomputable def ref11_Solve_l5_se (K : Nat) : SE := stmtN [(4, .int .i64), (5, .sl), (7, .sl), (8, .int .i64), (13, .int .i64)] [] [(13, 16), (113, 167)] (fun x w => ref11_Solve_l5 K K x.1 x.2.1 x.2.2.1 x.2.2.2.1 x.2.2.2.2.1 w)
theorem ref11_Solve_l5_se_ok (K : Nat) (R : Rg) (h : subRB [(13, 16), (113, 167)] R = true) : (ref11_Solve_l5_se K).Ok prog R (.block 8 (.loop (cd (bodyOf f37) [1, 1, 1, 1, 1, 1, 0, 1, 0, 0, 1, 0, 0, 1, 1, 1, 1, 1, 1, 1, 1, 0, 0]))) := stmtN_ok (Li := [(4, .int .i64), (5, .sl), (7, .sl), (8, .int .i64), (13, .int .i64)]) (Lo := []) (S := (fun x w => ref11_Solve_l5 K K x.1 x.2.1 x.2.2.1 x.2.2.2.1 x.2.2.2.2.1 w)) (ref11_Solve_l5_ok K K) (subR_of h)
theorem ref11_Solve_l1_ok (K : Nat) (n : Nat) : StmtOk prog [(4, .int .i64), (5, .sl), (7, .sl), (8, .int .i64)] [(7, .sl)] [(2, .sl), (3, .bool)] [(2, 4), (7, 16), (41, 167)] ((fun n x w => ref11_Solve_l1 K n x.1 x.2.1 x.2.2.1 x.2.2.2.1 w) n) (.block 2 (.loop (cd (bodyOf f37) [1, 1, 1, 1, 1, 1, 0, 1, 0, 0]))) :=
    mk_loop (O := tabL [([1, 1, 1, 1, 1, 1, 0, 1, 0, 0, 1, 0, 0, 1, 1, 0, 1], ref11_Solve_l2_se K), ([1, 1, 1, 1, 1, 1, 0, 1, 0, 0, 1, 0, 0, 1, 1, 0, 1, 0, 0, 0, 0], ref11_Solve_s3_se K), ([1, 1, 1, 1, 1, 1, 0, 1, 0, 0, 1, 0, 0, 1, 1, 1, 1, 1, 1, 0, 1], ref11_Solve_l4_se K), ([1, 1, 1, 1, 1, 1, 0, 1, 0, 0, 1, 0, 0, 1, 1, 1, 1, 1, 1, 1, 1], ref11_Solve_l5_se K), ([1, 1, 1, 1, 1, 1, 0, 1, 0, 0, 1, 0, 0, 1, 1, 1, 1, 1, 1, 1, 1, 0, 0, 1, 0, 0, 0, 0], ref11_Solve_s6_se K), ([1, 1, 1, 1, 1, 1, 0, 1, 0, 0, 1, 0, 0, 1, 1, 1, 1, 1, 1, 1, 1, 0, 0, 1, 0, 0, 1, 1, 1], ref11_Solve_l7_se K)]) (root := (bodyOf f37)) (π := [1, 1, 1, 1, 1, 1, 0, 1, 0, 0]) (id := 2) (Li := [(4, .int .i64), (5, .sl), (7, .sl), (8, .int .i64)]) (Lo := [(7, .sl)]) (Lr := [(2, .sl), (3, .bool)]) (S := (fun n x w => ref11_Solve_l1 K n x.1 x.2.1 x.2.2.1 x.2.2.2.1 w)) (body := cd (bodyOf f37) [1, 1, 1, 1, 1, 1, 0, 1, 0, 0]) (ref11_Solve_Eok K) (ref11_Solve_Rok K) rfl (Orc.cons (by kernel_rfl) (ref11_Solve_l2_se_ok K [(2, 4), (7, 16), (41, 167)] (by kernel_rfl)) (Orc.cons (by kernel_rfl) (ref11_Solve_s3_se_ok K [(2, 4), (7, 16), (41, 167)] (by kernel_rfl)) (Orc.cons (by kernel_rfl) (ref11_Solve_l4_se_ok K [(2, 4), (7, 16), (41, 167)] (by kernel_rfl)) (Orc.cons (by kernel_rfl) (ref11_Solve_l5_se_ok K [(2, 4), (7, 16), (41, 167)] (by kernel_rfl)) (Orc.cons (by kernel_rfl) (ref11_Solve_s6_se_ok K [(2, 4), (7, 16), (41, 167)] (by kernel_rfl)) (Orc.cons (by kernel_rfl) (ref11_Solve_l7_se_ok K [(2, 4), (7, 16), (41, 167)] (by kernel_rfl)) (Orc.nil _ _ _))))))) (by kernel_rfl) (fun _ _ => by kernel_rfl) (fun _ _ _ => by kernel_rfl) n
noncomputable def ref11_Solve_l1_se (K : Nat) : SE := stmt [(4, .int .i64), (5, .sl), (7, .sl), (8, .int .i64)] [(7, .sl)] [(2, .sl), (3, .bool)] [(2, 4), (7, 16), (41, 167)] (fun x w => ref11_Solve_l1 K K x.1 x.2.1 x.2.2.1 x.2.2.2.1 w)
theorem ref11_Solve_l1_se_ok (K : Nat) (R : Rg) (h : subRB [(2, 4), (7, 16), (41, 167)] R = true) : (ref11_Solve_l1_se K).Ok prog R (.block 2 (.loop (cd (bodyOf f37) [1, 1, 1, 1, 1, 1, 0, 1, 0, 0]))) := stmt_ok (Li := [(4, .int .i64), (5, .sl), (7, .sl), (8, .int .i64)]) (Lo := [(7, .sl)]) (Lr := [(2, .sl), (3, .bool)]) (S := (fun x w => ref11_Solve_l1 K K x.1 x.2.1 x.2.2.1 x.2.2.2.1 w)) (ref11_Solve_l1_ok K K) (subR_of h)
theorem ref11_Solve_l8_ok (K : Nat) (n : Nat) : StmtOk prog [(4, .int .i64), (5, .sl), (7, .sl), (16, .int .i64)] [] [(2, .sl), (3, .bool)] [(2, 4), (16, 17), (168, 182)] ((fun n x w => ref11_Solve_l8 K n x.1 x.2.1 x.2.2.1 x.2.2.2.1 w) n) (.block 12 (.loop (cd (bodyOf f37) [1, 1, 1, 1, 1, 1, 1, 0, 1, 0, 0]))) :=
    mk_loop (O := tabL []) (root := (bodyOf f37)) (π := [1, 1, 1, 1, 1, 1, 1, 0, 1, 0, 0]) (id := 12) (Li := [(4, .int .i64), (5, .sl), (7, .sl), (16, .int .i64)]) (Lo := []) (Lr := [(2, .sl), (3, .bool)]) (S := (fun n x w => ref11_Solve_l8 K n x.1 x.2.1 x.2.2.1 x.2.2.2.1 w)) (body := cd (bodyOf f37) [1, 1, 1, 1, 1, 1, 1, 0, 1, 0, 0]) (ref11_Solve_Eok K) (ref11_Solve_Rok K) rfl (Orc.nil _ _ _) (by kernel_rfl) (fun _ _ => by kernel_rfl) (fun _ _ _ => by kernel_rfl) n
noncomputable def ref11_Solve_l8_se (K : Nat) : SE := stmt [(4, .int .i64), (5, .sl), (7, .sl), (16, .int .i64)] [] [(2, .sl), (3, .bool)] [(2, 4), (16, 17), (168, 182)] (fun x w => ref11_Solve_l8 K K x.1 x.2.1 x.2.2.1 x.2.2.2.1 w)
theorem ref11_Solve_l8_se_ok (K : Nat) (R : Rg) (h : subRB [(2, 4), (16, 17), (168, 182)] R = true) : (ref11_Solve_l8_se K).Ok prog R (.block 12 (.loop (cd (bodyOf f37) [1, 1, 1, 1, 1, 1, 1, 0, 1, 0, 0]))) := stmt_ok (Li := [(4, .int .i64), (5, .sl), (7, .sl), (16, .int .i64)]) (Lo := []) (Lr := [(2, .sl), (3, .bool)]) (S := (fun x w => ref11_Solve_l8 K K x.1 x.2.1 x.2.2.1 x.2.2.2.1 w)) (ref11_Solve_l8_ok K K) (subR_of h)
theorem ref11_Solve_l9_ok (K : Nat) (n : Nat) : StmtNOk prog [(4, .int .i64), (5, .sl), (7, .sl), (17, .int .i64)] [] [(17, 18), (182, 197)] ((fun n x w => ref11_Solve_l9 K n x.1 x.2.1 x.2.2.1 x.2.2.2.1 w) n) (.block 14 (.loop (cd (bodyOf f37) [1, 1, 1, 1, 1, 1, 1, 1, 0, 1, 0, 0]))) :=
    mk_loopN (O := tabL []) (root := (bodyOf f37)) (π := [1, 1, 1, 1, 1, 1, 1, 1, 0, 1, 0, 0]) (id := 14) (Li := [(4, .int .i64), (5, .sl), (7, .sl), (17, .int .i64)]) (Lo := []) (S := (fun n x w => ref11_Solve_l9 K n x.1 x.2.1 x.2.2.1 x.2.2.2.1 w)) (body := cd (bodyOf f37) [1, 1, 1, 1, 1, 1, 1, 1, 0, 1, 0, 0]) (ref11_Solve_Eok K) (ref11_Solve_Rok K) rfl (Orc.nil _ _ _) (by kernel_rfl) (fun _ _ => by kernel_rfl) (fun _ _ _ => by kernel_rfl) n
noncomputable def ref11_Solve_l9_se (K : Nat) : SE := stmtN [(4, .int .i64), (5, .sl), (7, .sl), (17, .int .i64)] [] [(17, 18), (182, 197)] (fun x w => ref11_Solve_l9 K K x.1 x.2.1 x.2.2.1 x.2.2.2.1 w)
theorem ref11_Solve_l9_se_ok (K : Nat) (R : Rg) (h : subRB [(17, 18), (182, 197)] R = true) : (ref11_Solve_l9_se K).Ok prog R (.block 14 (.loop (cd (bodyOf f37) [1, 1, 1, 1, 1, 1, 1, 1, 0, 1, 0, 0]))) := stmtN_ok (Li := [(4, .int .i64), (5, .sl), (7, .sl), (17, .int .i64)]) (Lo := []) (S := (fun x w => ref11_Solve_l9 K K x.1 x.2.1 x.2.2.1 x.2.2.2.1 w)) (ref11_Solve_l9_ok K K) (subR_of h)
theorem ref11_Solve_facts : FunFacts prog 37 f37 (bodyOf f37) [(0, .sl)] [(0, 198)] := ⟨func37, by kernel_rfl, by kernel_rfl, by kernel_rfl, by kernel_rfl, by kernel_rfl⟩
theorem ref11_Solve_calls (K : Nat) (x : TT [(0, .sl)]) (w : World) (y : TR [.sl, .bool]) (w2 : World) (h : ref11_Solve K x.1 w = some (y, w2)) : Calls prog 37 (encA [(0, .sl)] x).toArray w (fun e w3 => e = .returned (resV (encR [.sl, .bool] y)) ∧ w3 = w2) :=
    mk_fun (O := tabL [([1, 1, 1, 1, 0, 1], ref11_Solve_l0_se K), ([1, 1, 1, 1, 1, 1, 0, 1], ref11_Solve_l1_se K), ([1, 1, 1, 1, 1, 1, 0, 1, 0, 0, 1, 0, 0, 1, 1, 0, 1], ref11_Solve_l2_se K), ([1, 1, 1, 1, 1, 1, 0, 1, 0, 0, 1, 0, 0, 1, 1, 0, 1, 0, 0, 0, 0], ref11_Solve_s3_se K), ([1, 1, 1, 1, 1, 1, 0, 1, 0, 0, 1, 0, 0, 1, 1, 1, 1, 1, 1, 0, 1], ref11_Solve_l4_se K), ([1, 1, 1, 1, 1, 1, 0, 1, 0, 0, 1, 0, 0, 1, 1, 1, 1, 1, 1, 1, 1], ref11_Solve_l5_se K), ([1, 1, 1, 1, 1, 1, 0, 1, 0, 0, 1, 0, 0, 1, 1, 1, 1, 1, 1, 1, 1, 0, 0, 1, 0, 0, 0, 0], ref11_Solve_s6_se K), ([1, 1, 1, 1, 1, 1, 0, 1, 0, 0, 1, 0, 0, 1, 1, 1, 1, 1, 1, 1, 1, 0, 0, 1, 0, 0, 1, 1, 1], ref11_Solve_l7_se K), ([1, 1, 1, 1, 1, 1, 1, 0, 1], ref11_Solve_l8_se K), ([1, 1, 1, 1, 1, 1, 1, 1, 0, 1], ref11_Solve_l9_se K)]) (Lp := [(0, .sl)]) (Rt := [.sl, .bool]) (S := (fun x w => ref11_Solve K x.1 w)) (ref11_Solve_Eok K) (ref11_Solve_Rok K) rfl ref11_Solve_facts (Orc.cons (by kernel_rfl) (ref11_Solve_l0_se_ok K [(0, 198)] (by kernel_rfl)) (Orc.cons (by kernel_rfl) (ref11_Solve_l1_se_ok K [(0, 198)] (by kernel_rfl)) (Orc.cons (by kernel_rfl) (ref11_Solve_l2_se_ok K [(0, 198)] (by kernel_rfl)) (Orc.cons (by kernel_rfl) (ref11_Solve_s3_se_ok K [(0, 198)] (by kernel_rfl)) (Orc.cons (by kernel_rfl) (ref11_Solve_l4_se_ok K [(0, 198)] (by kernel_rfl)) (Orc.cons (by kernel_rfl) (ref11_Solve_l5_se_ok K [(0, 198)] (by kernel_rfl)) (Orc.cons (by kernel_rfl) (ref11_Solve_s6_se_ok K [(0, 198)] (by kernel_rfl)) (Orc.cons (by kernel_rfl) (ref11_Solve_l7_se_ok K [(0, 198)] (by kernel_rfl)) (Orc.cons (by kernel_rfl) (ref11_Solve_l8_se_ok K [(0, 198)] (by kernel_rfl)) (Orc.cons (by kernel_rfl) (ref11_Solve_l9_se_ok K [(0, 198)] (by kernel_rfl)) (Orc.nil _ _ _))))))))))) (fun _ _ => by kernel_rfl) x w y w2 h
noncomputable def ref11_Solve_ce (K : Nat) : CE := funE [(0, .sl)] [.sl, .bool] (fun x w => ref11_Solve K x.1 w)
theorem ref11_Solve_ok (K : Nat) : (ref11_Solve_ce K).Ok prog 37 := funE_ok (Rt := [.sl, .bool]) (S := (fun x w => ref11_Solve K x.1 w)) ref11_Solve_facts fun x w y w2 h => ref11_Solve_calls K x w y w2 h

end Go.Sh
