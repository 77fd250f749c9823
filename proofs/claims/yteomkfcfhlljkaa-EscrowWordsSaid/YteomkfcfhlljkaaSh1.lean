/- What functions of the program do, as Lean functions; that the machine does just that. Printed by shal.py, a program of this claim's writer. -/
import Derived.Test.YteomkfcfhlljkaaSh0
set_option maxRecDepth 100000
set_option linter.unusedVariables false
namespace Go.Sh
open Go.Fw Go.Proofs.Try

noncomputable def ref11_Read_E (K : Nat) : List (Nat × CE) := []
theorem ref11_Read_Eok (K : Nat) : Env.Ok prog (tab (ref11_Read_E K)) := (Env.nil _)
noncomputable def ref11_Read_R (K : Nat) : List (Nat × RE) := [(26, ref11_gap_re), (27, ref11_place_re K)]
theorem ref11_Read_Rok (K : Nat) : REnv.Ok prog (tab (ref11_Read_R K)) := (REnv.cons (ref11_gap_ok) (REnv.cons (ref11_place_ok K) (REnv.nil _)))
noncomputable def ref11_Read_l1_b (K : Nat) (rec : ByteArray → Sl → Int → Int → World → Option ((Int × Unit) × World)) (s0 : ByteArray) (out4 : Sl) (i5 : Int) (from6 : Int) (w : World) : Option ((Int × Unit) × World) :=
  if (decide (i5 < ((s0.size : Nat) : Int))) = true then (if (0 : Int) ≤ i5 then ((s0[(Int.toNat i5)]?).bind fun b_3 =>
  (ref11_gap ((b_3.toNat : Nat) : Int)).bind fun r_4 =>
  if (!r_4.1) = true then (rec s0 out4 (IntKind.i64.wrap (i5 + 1)) from6 w) else (some ((i5, ()), w))) else none) else (some ((i5, ()), w))
noncomputable def ref11_Read_l1 (K : Nat) (n : Nat) : ByteArray → Sl → Int → Int → World → Option ((Int × Unit) × World) := iter (fun _ _ _ _ _ => none) (ref11_Read_l1_b K) n
noncomputable def ref11_Read_s3 (K : Nat) (c10 : Int) (w : World) : Option ((Bool × Unit) × World) :=
  if (decide (c10 ≥ 65)) = true then (some (((decide (c10 ≤ 90)), ()), w)) else (some ((false, ()), w))
noncomputable def ref11_Read_s4 (K : Nat) (c10 : Int) (a55 : Bool) (w : World) : Option ((Int × Unit) × World) :=
  if a55 = true then (some (((IntKind.u8.wrap (c10 + 32)), ()), w)) else (some ((c10, ()), w))
noncomputable def ref11_Read_s5 (K : Nat) (well8 : Bool) (p11 : Int) (w : World) : Option ((Bool × Unit) × World) :=
  if well8 = true then (some (((decide (p11 ≥ 0)), ()), w)) else (some ((false, ()), w))
noncomputable def ref11_Read_s6 (K : Nat) (well8 : Bool) (p12 : Int) (w : World) : Option ((Bool × Unit) × World) :=
  if well8 = true then (some (((decide (p12 ≥ 0)), ()), w)) else (some ((false, ()), w))
noncomputable def ref11_Read_l2_b (K : Nat) (rec : ByteArray → Sl → Int → Int → Int → Bool → Int → World → Option ((Int × Bool × Unit) × World)) (s0 : ByteArray) (out4 : Sl) (i5 : Int) (from6 : Int) (v7 : Int) (well8 : Bool) (k9 : Int) (w : World) : Option ((Int × Bool × Unit) × World) :=
  if (decide (k9 < 5)) = true then (if (0 : Int) ≤ (IntKind.i64.wrap (from6 + k9)) then ((s0[(Int.toNat (IntKind.i64.wrap (from6 + k9)))]?).bind fun b_7 =>
  bnd (ref11_Read_s3 K ((b_7.toNat : Nat) : Int) w) fun y_8 w_9 =>
  bnd (ref11_Read_s4 K ((b_7.toNat : Nat) : Int) y_8.1 w_9) fun y_10 w_11 =>
  if ((Int.tmod k9 2) == 0) = true then ((ref11_place K str1 y_10.1).bind fun r_12 =>
  bnd (ref11_Read_s5 K well8 r_12.1 w_11) fun y_13 w_14 =>
  rec s0 out4 i5 from6 (IntKind.i64.wrap ((IntKind.i64.wrap (v7 * 16)) + r_12.1)) y_13.1 (IntKind.i64.wrap (k9 + 1)) w_14) else ((ref11_place K str2 y_10.1).bind fun r_15 =>
  bnd (ref11_Read_s6 K well8 r_15.1 w_11) fun y_16 w_17 =>
  rec s0 out4 i5 from6 (IntKind.i64.wrap ((IntKind.i64.wrap (v7 * 4)) + r_15.1)) y_16.1 (IntKind.i64.wrap (k9 + 1)) w_17)) else none) else (some ((v7, well8, ()), w))
noncomputable def ref11_Read_l2 (K : Nat) (n : Nat) : ByteArray → Sl → Int → Int → Int → Bool → Int → World → Option ((Int × Bool × Unit) × World) := iter (fun _ _ _ _ _ _ _ _ => none) (ref11_Read_l2_b K) n
noncomputable def ref11_Read_s7 (K : Nat) (v7 : Int) (a84 : Bool) (w : World) : Option ((Int × Unit) × World) :=
  if a84 = true then (some ((0, ()), w)) else (some ((v7, ()), w))
noncomputable def ref11_Read_l0_b (K : Nat) (rec : ByteArray → Sl → Int → World → Option ((Out (Sl × Unit) (Sl × Bool × Unit)) × World)) (s0 : ByteArray) (out4 : Sl) (i5 : Int) (w : World) : Option ((Out (Sl × Unit) (Sl × Bool × Unit)) × World) :=
  if (decide (i5 < ((s0.size : Nat) : Int))) = true then (if (0 : Int) ≤ i5 then ((s0[(Int.toNat i5)]?).bind fun b_1 =>
  (ref11_gap ((b_1.toNat : Nat) : Int)).bind fun r_2 =>
  if r_2.1 = true then (rec s0 out4 (IntKind.i64.wrap (i5 + 1)) w) else (bnd (ref11_Read_l1 K K s0 out4 i5 i5 w) fun y_5 w_6 =>
  if ((IntKind.i64.wrap (y_5.1 - i5)) != 5) = true then (some (.ret (⟨none, 0, 0⟩, false, ()), w_6)) else (bnd (ref11_Read_l2 K K s0 out4 y_5.1 i5 0 true 0 w_6) fun y_18 w_19 =>
  bnd (ref11_Read_s7 K y_18.1 (!y_18.2.1) w_19) fun y_20 w_21 =>
  bnd (bldS prog 25 2 #[(0, (.int .u8 (IntKind.u8.wrap (IntKind.i64.wrap (Int.tdiv y_20.1 256))))), (1, (.int .u8 (IntKind.u8.wrap (Int.tmod y_20.1 256))))] w_21) fun s_22 w_23 =>
  bnd (apd prog 25 25 (.slice out4.a out4.len out4.cap) (.slice s_22.a s_22.len s_22.cap) w_23) fun s_24 w_25 =>
  rec s0 s_24 y_5.1 w_25))) else none) else (some (.norm (out4, ()), w))
noncomputable def ref11_Read_l0 (K : Nat) (n : Nat) : ByteArray → Sl → Int → World → Option ((Out (Sl × Unit) (Sl × Bool × Unit)) × World) := iter (fun _ _ _ _ => none) (ref11_Read_l0_b K) n
/-- coffer/cofferref11.Read -/
noncomputable def ref11_Read (K : Nat) (s0 : ByteArray) (w : World) : Option ((Sl × Bool × Unit) × World) :=
  bnd (ref11_Read_l0 K K s0 ⟨none, 0, 0⟩ 0 w) fun y_26 w_27 =>
  (match y_26 with
  | .norm z_28n => (some ((z_28n.1, true, ()), w_27))
  | .ret z_28r => (some ((z_28r.1, z_28r.2.1, ()), w_27)))
theorem ref11_Read_l1_ok (K : Nat) (n : Nat) : StmtNOk prog [(0, .str), (4, .sl), (5, .int .i64), (6, .int .i64)] [(5, .int .i64)] [(5, 6), (24, 37)] ((fun n x w => ref11_Read_l1 K n x.1 x.2.1 x.2.2.1 x.2.2.2.1 w) n) (.block 2 (.loop (cd (bodyOf f20) [1, 1, 1, 0, 0, 0, 1, 0, 1, 1, 0, 0, 0]))) :=
    mk_loopN (O := tabL []) (root := (bodyOf f20)) (π := [1, 1, 1, 0, 0, 0, 1, 0, 1, 1, 0, 0, 0]) (id := 2) (Li := [(0, .str), (4, .sl), (5, .int .i64), (6, .int .i64)]) (Lo := [(5, .int .i64)]) (S := (fun n x w => ref11_Read_l1 K n x.1 x.2.1 x.2.2.1 x.2.2.2.1 w)) (body := cd (bodyOf f20) [1, 1, 1, 0, 0, 0, 1, 0, 1, 1, 0, 0, 0]) (ref11_Read_Eok K) (ref11_Read_Rok K) rfl (Orc.nil _ _ _) (by kernel_rfl) (fun _ _ => by kernel_rfl) (fun _ _ _ => by kernel_rfl) n
noncomputable def ref11_Read_l1_se (K : Nat) : SE := stmtN [(0, .str), (4, .sl), (5, .int .i64), (6, .int .i64)] [(5, .int .i64)] [(5, 6), (24, 37)] (fun x w => ref11_Read_l1 K K x.1 x.2.1 x.2.2.1 x.2.2.2.1 w)
theorem ref11_Read_l1_se_ok (K : Nat) (R : Rg) (h : subRB [(5, 6), (24, 37)] R = true) : (ref11_Read_l1_se K).Ok prog R (.block 2 (.loop (cd (bodyOf f20) [1, 1, 1, 0, 0, 0, 1, 0, 1, 1, 0, 0, 0]))) := stmtN_ok (Li := [(0, .str), (4, .sl), (5, .int .i64), (6, .int .i64)]) (Lo := [(5, .int .i64)]) (S := (fun x w => ref11_Read_l1 K K x.1 x.2.1 x.2.2.1 x.2.2.2.1 w)) (ref11_Read_l1_ok K K) (subR_of h)
theorem ref11_Read_s3_ok (K : Nat) : StmtNOk prog [(10, .int .u8)] [(55, .bool)] [(50, 56)] (fun x w => ref11_Read_s3 K x.1 w) (cd (bodyOf f20) [1, 1, 1, 0, 0, 0, 1, 0, 1, 1, 1, 1, 1, 1, 0, 1, 0, 0, 1, 0, 0, 1, 0, 0]) :=
    mk_stmtN (O := tabL []) (root := (bodyOf f20)) (π := [1, 1, 1, 0, 0, 0, 1, 0, 1, 1, 1, 1, 1, 1, 0, 1, 0, 0, 1, 0, 0, 1, 0, 0]) (Li := [(10, .int .u8)]) (Lo := [(55, .bool)]) (S := (fun x w => ref11_Read_s3 K x.1 w)) (ref11_Read_Eok K) (ref11_Read_Rok K) rfl (Orc.nil _ _ _) (by kernel_rfl) (fun _ _ => by kernel_rfl)
noncomputable def ref11_Read_s3_se (K : Nat) : SE := stmtN [(10, .int .u8)] [(55, .bool)] [(50, 56)] (fun x w => ref11_Read_s3 K x.1 w)
theorem ref11_Read_s3_se_ok (K : Nat) (R : Rg) (h : subRB [(50, 56)] R = true) : (ref11_Read_s3_se K).Ok prog R (cd (bodyOf f20) [1, 1, 1, 0, 0, 0, 1, 0, 1, 1, 1, 1, 1, 1, 0, 1, 0, 0, 1, 0, 0, 1, 0, 0]) := stmtN_ok (Li := [(10, .int .u8)]) (Lo := [(55, .bool)]) (S := (fun x w => ref11_Read_s3 K x.1 w)) (ref11_Read_s3_ok K) (subR_of h)
theorem ref11_Read_s4_ok (K : Nat) : StmtNOk prog [(10, .int .u8), (55, .bool)] [(10, .int .u8)] [(10, 11), (56, 58)] (fun x w => ref11_Read_s4 K x.1 x.2.1 w) (cd (bodyOf f20) [1, 1, 1, 0, 0, 0, 1, 0, 1, 1, 1, 1, 1, 1, 0, 1, 0, 0, 1, 0, 0, 1, 0, 1]) :=
    mk_stmtN (O := tabL []) (root := (bodyOf f20)) (π := [1, 1, 1, 0, 0, 0, 1, 0, 1, 1, 1, 1, 1, 1, 0, 1, 0, 0, 1, 0, 0, 1, 0, 1]) (Li := [(10, .int .u8), (55, .bool)]) (Lo := [(10, .int .u8)]) (S := (fun x w => ref11_Read_s4 K x.1 x.2.1 w)) (ref11_Read_Eok K) (ref11_Read_Rok K) rfl (Orc.nil _ _ _) (by kernel_rfl) (fun _ _ => by kernel_rfl)
noncomputable def ref11_Read_s4_se (K : Nat) : SE := stmtN [(10, .int .u8), (55, .bool)] [(10, .int .u8)] [(10, 11), (56, 58)] (fun x w => ref11_Read_s4 K x.1 x.2.1 w)
theorem ref11_Read_s4_se_ok (K : Nat) (R : Rg) (h : subRB [(10, 11), (56, 58)] R = true) : (ref11_Read_s4_se K).Ok prog R (cd (bodyOf f20) [1, 1, 1, 0, 0, 0, 1, 0, 1, 1, 1, 1, 1, 1, 0, 1, 0, 0, 1, 0, 0, 1, 0, 1]) := stmtN_ok (Li := [(10, .int .u8), (55, .bool)]) (Lo := [(10, .int .u8)]) (S := (fun x w => ref11_Read_s4 K x.1 x.2.1 w)) (ref11_Read_s4_ok K) (subR_of h)
theorem ref11_Read_s5_ok (K : Nat) : StmtNOk prog [(8, .bool), (11, .int .i64)] [(8, .bool)] [(8, 9), (63, 68)] (fun x w => ref11_Read_s5 K x.1 x.2.1 w) (cd (bodyOf f20) [1, 1, 1, 0, 0, 0, 1, 0, 1, 1, 1, 1, 1, 1, 0, 1, 0, 0, 1, 0, 0, 1, 1, 1, 0, 1, 0]) :=
    mk_stmtN (O := tabL []) (root := (bodyOf f20)) (π := [1, 1, 1, 0, 0, 0, 1, 0, 1, 1, 1, 1, 1, 1, 0, 1, 0, 0, 1, 0, 0, 1, 1, 1, 0, 1, 0]) (Li := [(8, .bool), (11, .int .i64)]) (Lo := [(8, .bool)]) (S := (fun x w => ref11_Read_s5 K x.1 x.2.1 w)) (ref11_Read_Eok K) (ref11_Read_Rok K) rfl (Orc.nil _ _ _) (by kernel_rfl) (fun _ _ => by kernel_rfl)
noncomputable def ref11_Read_s5_se (K : Nat) : SE := stmtN [(8, .bool), (11, .int .i64)] [(8, .bool)] [(8, 9), (63, 68)] (fun x w => ref11_Read_s5 K x.1 x.2.1 w)
theorem ref11_Read_s5_se_ok (K : Nat) (R : Rg) (h : subRB [(8, 9), (63, 68)] R = true) : (ref11_Read_s5_se K).Ok prog R (cd (bodyOf f20) [1, 1, 1, 0, 0, 0, 1, 0, 1, 1, 1, 1, 1, 1, 0, 1, 0, 0, 1, 0, 0, 1, 1, 1, 0, 1, 0]) := stmtN_ok (Li := [(8, .bool), (11, .int .i64)]) (Lo := [(8, .bool)]) (S := (fun x w => ref11_Read_s5 K x.1 x.2.1 w)) (ref11_Read_s5_ok K) (subR_of h)
theorem ref11_Read_s6_ok (K : Nat) : StmtNOk prog [(8, .bool), (12, .int .i64)] [(8, .bool)] [(8, 9), (74, 79)] (fun x w => ref11_Read_s6 K x.1 x.2.1 w) (cd (bodyOf f20) [1, 1, 1, 0, 0, 0, 1, 0, 1, 1, 1, 1, 1, 1, 0, 1, 0, 0, 1, 0, 0, 1, 1, 1, 1, 1, 0]) :=
    mk_stmtN (O := tabL []) (root := (bodyOf f20)) (π := [1, 1, 1, 0, 0, 0, 1, 0, 1, 1, 1, 1, 1, 1, 0, 1, 0, 0, 1, 0, 0, 1, 1, 1, 1, 1, 0]) (Li := [(8, .bool), (12, .int .i64)]) (Lo := [(8, .bool)]) (S := (fun x w => ref11_Read_s6 K x.1 x.2.1 w)) (ref11_Read_Eok K) (ref11_Read_Rok K) rfl (Orc.nil _ _ _) (by kernel_rfl) (fun _ _ => by kernel_rfl)
noncomputable def ref11_Read_s6_se (K : Nat) : SE := stmtN [(8, .bool), (12, .int .i64)] [(8, .bool)] [(8, 9), (74, 79)] (fun x w => ref11_Read_s6 K x.1 x.2.1 w)
theorem ref11_Read_s6_se_ok (K : Nat) (R : Rg) (h : subRB [(8, 9), (74, 79)] R = true) : (ref11_Read_s6_se K).Ok prog R (cd (bodyOf f20) [1, 1, 1, 0, 0, 0, 1, 0, 1, 1, 1, 1, 1, 1, 0, 1, 0, 0, 1, 0, 0, 1, 1, 1, 1, 1, 0]) := stmtN_ok (Li := [(8, .bool), (12, .int .i64)]) (Lo := [(8, .bool)]) (S := (fun x w => ref11_Read_s6 K x.1 x.2.1 w)) (ref11_Read_s6_ok K) (subR_of h)
theorem ref11_Read_l2_ok (K : Nat) (n : Nat) : StmtNOk prog [(0, .str), (4, .sl), (5, .int .i64), (6, .int .i64), (7, .int .i64), (8, .bool), (9, .int .i64)] [(7, .int .i64), (8, .bool)] [(7, 13), (41, 83)] ((fun n x w => ref11_Read_l2 K n x.1 x.2.1 x.2.2.1 x.2.2.2.1 x.2.2.2.2.1 x.2.2.2.2.2.1 x.2.2.2.2.2.2.1 w) n) (.block 4 (.loop (cd (bodyOf f20) [1, 1, 1, 0, 0, 0, 1, 0, 1, 1, 1, 1, 1, 1, 0, 1, 0, 0]))) :=
    mk_loopN (O := tabL [([1, 1, 1, 0, 0, 0, 1, 0, 1, 1, 1, 1, 1, 1, 0, 1, 0, 0, 1, 0, 0, 1, 0, 0], ref11_Read_s3_se K), ([1, 1, 1, 0, 0, 0, 1, 0, 1, 1, 1, 1, 1, 1, 0, 1, 0, 0, 1, 0, 0, 1, 0, 1], ref11_Read_s4_se K), ([1, 1, 1, 0, 0, 0, 1, 0, 1, 1, 1, 1, 1, 1, 0, 1, 0, 0, 1, 0, 0, 1, 1, 1, 0, 1, 0], ref11_Read_s5_se K), ([1, 1, 1, 0, 0, 0, 1, 0, 1, 1, 1, 1, 1, 1, 0, 1, 0, 0, 1, 0, 0, 1, 1, 1, 1, 1, 0], ref11_Read_s6_se K)]) (root := (bodyOf f20)) (π := [1, 1, 1, 0, 0, 0, 1, 0, 1, 1, 1, 1, 1, 1, 0, 1, 0, 0]) (id := 4) (Li := [(0, .str), (4, .sl), (5, .int .i64), (6, .int .i64), (7, .int .i64), (8, .bool), (9, .int .i64)]) (Lo := [(7, .int .i64), (8, .bool)]) (S := (fun n x w => ref11_Read_l2 K n x.1 x.2.1 x.2.2.1 x.2.2.2.1 x.2.2.2.2.1 x.2.2.2.2.2.1 x.2.2.2.2.2.2.1 w)) (body := cd (bodyOf f20) [1, 1, 1, 0, 0, 0, 1, 0, 1, 1, 1, 1, 1, 1, 0, 1, 0, 0]) (ref11_Read_Eok K) (ref11_Read_Rok K) rfl (Orc.cons (by kernel_rfl) (ref11_Read_s3_se_ok K [(7, 13), (41, 83)] (by kernel_rfl)) (Orc.cons (by kernel_rfl) (ref11_Read_s4_se_ok K [(7, 13), (41, 83)] (by kernel_rfl)) (Orc.cons (by kernel_rfl) (ref11_Read_s5_se_ok K [(7, 13), (41, 83)] (by kernel_rfl)) (Orc.cons (by kernel_rfl) (ref11_Read_s6_se_ok K [(7, 13), (41, 83)] (by kernel_rfl)) (Orc.nil _ _ _))))) (by kernel_rfl) (fun _ _ => by kernel_rfl) (fun _ _ _ => by kernel_rfl) n
noncomputable def ref11_Read_l2_se (K : Nat) : SE := stmtN [(0, .str), (4, .sl), (5, .int .i64), (6, .int .i64), (7, .int .i64), (8, .bool), (9, .int .i64)] [(7, .int .i64), (8, .bool)] [(7, 13), (41, 83)] (fun x w => ref11_Read_l2 K K x.1 x.2.1 x.2.2.1 x.2.2.2.1 x.2.2.2.2.1 x.2.2.2.2.2.1 x.2.2.2.2.2.2.1 w)
theorem ref11_Read_l2_se_ok (K : Nat) (R : Rg) (h : subRB [(7, 13), (41, 83)] R = true) : (ref11_Read_l2_se K).Ok prog R (.block 4 (.loop (cd (bodyOf f20) [1, 1, 1, 0, 0, 0, 1, 0, 1, 1, 1, 1, 1, 1, 0, 1, 0, 0]))) := stmtN_ok (Li := [(0, .str), (4, .sl), (5, .int .i64), (6, .int .i64), (7, .int .i64), (8, .bool), (9, .int .i64)]) (Lo := [(7, .int .i64), (8, .bool)]) (S := (fun x w => ref11_Read_l2 K K x.1 x.2.1 x.2.2.1 x.2.2.2.1 x.2.2.2.2.1 x.2.2.2.2.2.1 x.2.2.2.2.2.2.1 w)) (ref11_Read_l2_ok K K) (subR_of h)
theorem ref11_Read_s7_ok (K : Nat) : StmtNOk prog [(7, .int .i64), (84, .bool)] [(7, .int .i64)] [(7, 8)] (fun x w => ref11_Read_s7 K x.1 x.2.1 w) (cd (bodyOf f20) [1, 1, 1, 0, 0, 0, 1, 0, 1, 1, 1, 1, 1, 1, 1, 0, 1]) :=
    mk_stmtN (O := tabL []) (root := (bodyOf f20)) (π := [1, 1, 1, 0, 0, 0, 1, 0, 1, 1, 1, 1, 1, 1, 1, 0, 1]) (Li := [(7, .int .i64), (84, .bool)]) (Lo := [(7, .int .i64)]) (S := (fun x w => ref11_Read_s7 K x.1 x.2.1 w)) (ref11_Read_Eok K) (ref11_Read_Rok K) rfl (Orc.nil _ _ _) (by kernel_rfl) (fun _ _ => by kernel_rfl)
noncomputable def ref11_Read_s7_se (K : Nat) : SE := stmtN [(7, .int .i64), (84, .bool)] [(7, .int .i64)] [(7, 8)] (fun x w => ref11_Read_s7 K x.1 x.2.1 w)
theorem ref11_Read_s7_se_ok (K : Nat) (R : Rg) (h : subRB [(7, 8)] R = true) : (ref11_Read_s7_se K).Ok prog R (cd (bodyOf f20) [1, 1, 1, 0, 0, 0, 1, 0, 1, 1, 1, 1, 1, 1, 1, 0, 1]) := stmtN_ok (Li := [(7, .int .i64), (84, .bool)]) (Lo := [(7, .int .i64)]) (S := (fun x w => ref11_Read_s7 K x.1 x.2.1 w)) (ref11_Read_s7_ok K) (subR_of h)
theorem ref11_Read_l0_ok (K : Nat) (n : Nat) : StmtOk prog [(0, .str), (4, .sl), (5, .int .i64)] [(4, .sl)] [(2, .sl), (3, .bool)] [(2, 94)] ((fun n x w => ref11_Read_l0 K n x.1 x.2.1 x.2.2.1 w) n) (.block 0 (.loop (cd (bodyOf f20) [1, 1, 1, 0, 0, 0]))) :=
    mk_loop (O := tabL [([1, 1, 1, 0, 0, 0, 1, 0, 1, 1, 0], ref11_Read_l1_se K), ([1, 1, 1, 0, 0, 0, 1, 0, 1, 1, 1, 1, 1, 1, 0, 1], ref11_Read_l2_se K), ([1, 1, 1, 0, 0, 0, 1, 0, 1, 1, 1, 1, 1, 1, 0, 1, 0, 0, 1, 0, 0, 1, 0, 0], ref11_Read_s3_se K), ([1, 1, 1, 0, 0, 0, 1, 0, 1, 1, 1, 1, 1, 1, 0, 1, 0, 0, 1, 0, 0, 1, 0, 1], ref11_Read_s4_se K), ([1, 1, 1, 0, 0, 0, 1, 0, 1, 1, 1, 1, 1, 1, 0, 1, 0, 0, 1, 0, 0, 1, 1, 1, 0, 1, 0], ref11_Read_s5_se K), ([1, 1, 1, 0, 0, 0, 1, 0, 1, 1, 1, 1, 1, 1, 0, 1, 0, 0, 1, 0, 0, 1, 1, 1, 1, 1, 0], ref11_Read_s6_se K), ([1, 1, 1, 0, 0, 0, 1, 0, 1, 1, 1, 1, 1, 1, 1, 0, 1], ref11_Read_s7_se K)]) (root := (bodyOf f20)) (π := [1, 1, 1, 0, 0, 0]) (id := 0) (Li := [(0, .str), (4, .sl), (5, .int .i64)]) (Lo := [(4, .sl)]) (Lr := [(2, .sl), (3, .bool)]) (S := (fun n x w => ref11_Read_l0 K n x.1 x.2.1 x.2.2.1 w)) (body := cd (bodyOf f20) [1, 1, 1, 0, 0, 0]) (ref11_Read_Eok K) (ref11_Read_Rok K) rfl (Orc.cons (by kernel_rfl) (ref11_Read_l1_se_ok K [(2, 94)] (by kernel_rfl)) (Orc.cons (by kernel_rfl) (ref11_Read_l2_se_ok K [(2, 94)] (by kernel_rfl)) (Orc.cons (by kernel_rfl) (ref11_Read_s3_se_ok K [(2, 94)] (by kernel_rfl)) (Orc.cons (by kernel_rfl) (ref11_Read_s4_se_ok K [(2, 94)] (by kernel_rfl)) (Orc.cons (by kernel_rfl) (ref11_Read_s5_se_ok K [(2, 94)] (by kernel_rfl)) (Orc.cons (by kernel_rfl) (ref11_Read_s6_se_ok K [(2, 94)] (by kernel_rfl)) (Orc.cons (by kernel_rfl) (ref11_Read_s7_se_ok K [(2, 94)] (by kernel_rfl)) (Orc.nil _ _ _)))))))) (by kernel_rfl) (fun _ _ => by kernel_rfl) (fun _ _ _ => by kernel_rfl) n
noncomputable def ref11_Read_l0_se (K : Nat) : SE := stmt [(0, .str), (4, .sl), (5, .int .i64)] [(4, .sl)] [(2, .sl), (3, .bool)] [(2, 94)] (fun x w => ref11_Read_l0 K K x.1 x.2.1 x.2.2.1 w)
theorem ref11_Read_l0_se_ok (K : Nat) (R : Rg) (h : subRB [(2, 94)] R = true) : (ref11_Read_l0_se K).Ok prog R (.block 0 (.loop (cd (bodyOf f20) [1, 1, 1, 0, 0, 0]))) := stmt_ok (Li := [(0, .str), (4, .sl), (5, .int .i64)]) (Lo := [(4, .sl)]) (Lr := [(2, .sl), (3, .bool)]) (S := (fun x w => ref11_Read_l0 K K x.1 x.2.1 x.2.2.1 w)) (ref11_Read_l0_ok K K) (subR_of h)
theorem ref11_Read_facts : FunFacts prog 20 f20 (bodyOf f20) [(0, .str)] [(0, 95)] := ⟨func20, by kernel_rfl, by kernel_rfl, by kernel_rfl, by kernel_rfl, by kernel_rfl⟩
theorem ref11_Read_calls (K : Nat) (x : TT [(0, .str)]) (w : World) (y : TR [.sl, .bool]) (w2 : World) (h : ref11_Read K x.1 w = some (y, w2)) : Calls prog 20 (encA [(0, .str)] x).toArray w (fun e w3 => e = .returned (resV (encR [.sl, .bool] y)) ∧ w3 = w2) :=
    mk_fun (O := tabL [([1, 1, 1, 0], ref11_Read_l0_se K), ([1, 1, 1, 0, 0, 0, 1, 0, 1, 1, 0], ref11_Read_l1_se K), ([1, 1, 1, 0, 0, 0, 1, 0, 1, 1, 1, 1, 1, 1, 0, 1], ref11_Read_l2_se K), ([1, 1, 1, 0, 0, 0, 1, 0, 1, 1, 1, 1, 1, 1, 0, 1, 0, 0, 1, 0, 0, 1, 0, 0], ref11_Read_s3_se K), ([1, 1, 1, 0, 0, 0, 1, 0, 1, 1, 1, 1, 1, 1, 0, 1, 0, 0, 1, 0, 0, 1, 0, 1], ref11_Read_s4_se K), ([1, 1, 1, 0, 0, 0, 1, 0, 1, 1, 1, 1, 1, 1, 0, 1, 0, 0, 1, 0, 0, 1, 1, 1, 0, 1, 0], ref11_Read_s5_se K), ([1, 1, 1, 0, 0, 0, 1, 0, 1, 1, 1, 1, 1, 1, 0, 1, 0, 0, 1, 0, 0, 1, 1, 1, 1, 1, 0], ref11_Read_s6_se K), ([1, 1, 1, 0, 0, 0, 1, 0, 1, 1, 1, 1, 1, 1, 1, 0, 1], ref11_Read_s7_se K)]) (Lp := [(0, .str)]) (Rt := [.sl, .bool]) (S := (fun x w => ref11_Read K x.1 w)) (ref11_Read_Eok K) (ref11_Read_Rok K) rfl ref11_Read_facts (Orc.cons (by kernel_rfl) (ref11_Read_l0_se_ok K [(0, 95)] (by kernel_rfl)) (Orc.cons (by kernel_rfl) (ref11_Read_l1_se_ok K [(0, 95)] (by kernel_rfl)) (Orc.cons (by kernel_rfl) (ref11_Read_l2_se_ok K [(0, 95)] (by kernel_rfl)) (Orc.cons (by kernel_rfl) (ref11_Read_s3_se_ok K [(0, 95)] (by kernel_rfl)) (Orc.cons (by kernel_rfl) (ref11_Read_s4_se_ok K [(0, 95)] (by kernel_rfl)) (Orc.cons (by kernel_rfl) (ref11_Read_s5_se_ok K [(0, 95)] (by kernel_rfl)) (Orc.cons (by kernel_rfl) (ref11_Read_s6_se_ok K [(0, 95)] (by kernel_rfl)) (Orc.cons (by kernel_rfl) (ref11_Read_s7_se_ok K [(0, 95)] (by kernel_rfl)) (Orc.nil _ _ _))))))))) (fun _ _ => by kernel_rfl) x w y w2 h
noncomputable def ref11_Read_ce (K : Nat) : CE := funE [(0, .str)] [.sl, .bool] (fun x w => ref11_Read K x.1 w)
theorem ref11_Read_ok (K : Nat) : (ref11_Read_ce K).Ok prog 20 := funE_ok (Rt := [.sl, .bool]) (S := (fun x w => ref11_Read K x.1 w)) ref11_Read_facts fun x w y w2 h => ref11_Read_calls K x w y w2 h

noncomputable def ref02_Times_R (K : Nat) : List (Nat × RE) := []
theorem ref02_Times_Rok (K : Nat) : REnv.Ok prog (tab (ref02_Times_R K)) := (REnv.nil _)
noncomputable def ref02_Times_l0_b (K : Nat) (rec : Int → Int → Int → Int → Option (Out (Int × Unit) (Int × Unit))) (a0 : Int) (b1 : Int) (p5 : Int) (i6 : Int) : Option (Out (Int × Unit) (Int × Unit)) :=
  if (decide (i6 < 8)) = true then (if (0 : Int) ≤ (IntKind.u64.wrap i6) then (if ((Int.tmod (Int.fdiv (IntKind.i64.wrap b1) (2 ^ (min (Int.toNat (IntKind.u64.wrap i6)) IntKind.i64.bits))) 2) == 1) = true then (if (0 : Int) ≤ (IntKind.u64.wrap i6) then (rec a0 b1 (bits .xor .i64 p5 (IntKind.i64.wrap ((IntKind.i64.wrap a0) * 2 ^ (min (Int.toNat (IntKind.u64.wrap i6)) IntKind.i64.bits)))) (IntKind.i64.wrap (i6 + 1))) else none) else (rec a0 b1 p5 (IntKind.i64.wrap (i6 + 1)))) else none) else (some (.norm (p5, ())))
noncomputable def ref02_Times_l0 (K : Nat) (n : Nat) : Int → Int → Int → Int → Option (Out (Int × Unit) (Int × Unit)) := iter (fun _ _ _ _ => none) (ref02_Times_l0_b K) n
noncomputable def ref02_Times_l1_b (K : Nat) (rec : Int → Int → Option (Out (Int × Unit) (Int × Unit))) (p5 : Int) (i7 : Int) : Option (Out (Int × Unit) (Int × Unit)) :=
  if (decide (i7 ≥ 8)) = true then (if (0 : Int) ≤ (IntKind.u64.wrap i7) then (if ((Int.tmod (Int.fdiv p5 (2 ^ (min (Int.toNat (IntKind.u64.wrap i7)) IntKind.i64.bits))) 2) == 1) = true then (if (0 : Int) ≤ (IntKind.u64.wrap (IntKind.i64.wrap (i7 - 8))) then (rec (bits .xor .i64 p5 (IntKind.i64.wrap (283 * 2 ^ (min (Int.toNat (IntKind.u64.wrap (IntKind.i64.wrap (i7 - 8)))) IntKind.i64.bits)))) (IntKind.i64.wrap (i7 - 1))) else none) else (rec p5 (IntKind.i64.wrap (i7 - 1)))) else none) else (some (.norm (p5, ())))
noncomputable def ref02_Times_l1 (K : Nat) (n : Nat) : Int → Int → Option (Out (Int × Unit) (Int × Unit)) := iter (fun _ _ => none) (ref02_Times_l1_b K) n
/-- coffer/cofferref02.Times -/
noncomputable def ref02_Times (K : Nat) (a0 : Int) (b1 : Int) : Option (Int × Unit) :=
  (ref02_Times_l0 K K a0 b1 0 0).bind fun y_1 =>
  (match y_1 with
  | .norm z_2n => ((ref02_Times_l1 K K z_2n.1 14).bind fun y_3 =>
  (match y_3 with
  | .norm z_4n => (some ((IntKind.u8.wrap z_4n.1), ()))
  | .ret z_4r => (some (z_4r.1, ()))))
  | .ret z_2r => (some (z_2r.1, ())))
theorem ref02_Times_l0_ok (K : Nat) (n : Nat) : StmtQOk prog [(0, .int .u8), (1, .int .u8), (5, .int .i64), (6, .int .i64)] [(5, .int .i64)] [(4, .int .u8)] [(5, 7), (8, 26)] ((fun n x w => ref02_Times_l0 K n x.1 x.2.1 x.2.2.1 x.2.2.2.1) n) (.block 0 (.loop (cd (bodyOf f36) [1, 1, 0, 1, 0, 0]))) :=
    mk_loopQ (O := tabL []) (root := (bodyOf f36)) (π := [1, 1, 0, 1, 0, 0]) (id := 0) (Li := [(0, .int .u8), (1, .int .u8), (5, .int .i64), (6, .int .i64)]) (Lo := [(5, .int .i64)]) (Lr := [(4, .int .u8)]) (S := (fun n x w => ref02_Times_l0 K n x.1 x.2.1 x.2.2.1 x.2.2.2.1)) (body := cd (bodyOf f36) [1, 1, 0, 1, 0, 0]) (ref02_Times_Rok K) (OrcQ.nil _ _ _) (by kernel_rfl) (fun _ _ => by kernel_rfl) (fun _ _ _ => by kernel_rfl) n
noncomputable def ref02_Times_l0_se (K : Nat) : SQ := stmtQ [(0, .int .u8), (1, .int .u8), (5, .int .i64), (6, .int .i64)] [(5, .int .i64)] [(4, .int .u8)] [(5, 7), (8, 26)] (fun x w => ref02_Times_l0 K K x.1 x.2.1 x.2.2.1 x.2.2.2.1)
theorem ref02_Times_l0_se_ok (K : Nat) (R : Rg) (h : subRB [(5, 7), (8, 26)] R = true) : (ref02_Times_l0_se K).Ok prog R (.block 0 (.loop (cd (bodyOf f36) [1, 1, 0, 1, 0, 0]))) := stmtQ_ok (Li := [(0, .int .u8), (1, .int .u8), (5, .int .i64), (6, .int .i64)]) (Lo := [(5, .int .i64)]) (Lr := [(4, .int .u8)]) (S := (fun x w => ref02_Times_l0 K K x.1 x.2.1 x.2.2.1 x.2.2.2.1)) (ref02_Times_l0_ok K K) (subR_of h)
theorem ref02_Times_l1_ok (K : Nat) (n : Nat) : StmtQOk prog [(5, .int .i64), (7, .int .i64)] [(5, .int .i64)] [(4, .int .u8)] [(5, 6), (7, 8), (26, 42)] ((fun n x w => ref02_Times_l1 K n x.1 x.2.1) n) (.block 2 (.loop (cd (bodyOf f36) [1, 1, 1, 0, 1, 0, 0]))) :=
    mk_loopQ (O := tabL []) (root := (bodyOf f36)) (π := [1, 1, 1, 0, 1, 0, 0]) (id := 2) (Li := [(5, .int .i64), (7, .int .i64)]) (Lo := [(5, .int .i64)]) (Lr := [(4, .int .u8)]) (S := (fun n x w => ref02_Times_l1 K n x.1 x.2.1)) (body := cd (bodyOf f36) [1, 1, 1, 0, 1, 0, 0]) (ref02_Times_Rok K) (OrcQ.nil _ _ _) (by kernel_rfl) (fun _ _ => by kernel_rfl) (fun _ _ _ => by kernel_rfl) n
noncomputable def ref02_Times_l1_se (K : Nat) : SQ := stmtQ [(5, .int .i64), (7, .int .i64)] [(5, .int .i64)] [(4, .int .u8)] [(5, 6), (7, 8), (26, 42)] (fun x w => ref02_Times_l1 K K x.1 x.2.1)
theorem ref02_Times_l1_se_ok (K : Nat) (R : Rg) (h : subRB [(5, 6), (7, 8), (26, 42)] R = true) : (ref02_Times_l1_se K).Ok prog R (.block 2 (.loop (cd (bodyOf f36) [1, 1, 1, 0, 1, 0, 0]))) := stmtQ_ok (Li := [(5, .int .i64), (7, .int .i64)]) (Lo := [(5, .int .i64)]) (Lr := [(4, .int .u8)]) (S := (fun x w => ref02_Times_l1 K K x.1 x.2.1)) (ref02_Times_l1_ok K K) (subR_of h)
theorem ref02_Times_facts : FunFacts prog 36 f36 (bodyOf f36) [(0, .int .u8), (1, .int .u8)] [(0, 44)] := ⟨func36, by kernel_rfl, by kernel_rfl, by kernel_rfl, by kernel_rfl, by kernel_rfl⟩
theorem ref02_Times_calls (K : Nat) (x : TT [(0, .int .u8), (1, .int .u8)]) (w : World) (y : TR [.int .u8]) (h : ref02_Times K x.1 x.2.1 = some y) : Calls prog 36 (encA [(0, .int .u8), (1, .int .u8)] x).toArray w (fun e w3 => e = .returned (resV (encR [.int .u8] y)) ∧ w3 = w) :=
    mk_funQ (O := tabL [([1, 1, 0, 1], ref02_Times_l0_se K), ([1, 1, 1, 0, 1], ref02_Times_l1_se K)]) (Lp := [(0, .int .u8), (1, .int .u8)]) (Rt := [.int .u8]) (S := (fun x w => ref02_Times K x.1 x.2.1)) (ref02_Times_Rok K) ref02_Times_facts (OrcQ.cons (by kernel_rfl) (ref02_Times_l0_se_ok K [(0, 44)] (by kernel_rfl)) (OrcQ.cons (by kernel_rfl) (ref02_Times_l1_se_ok K [(0, 44)] (by kernel_rfl)) (OrcQ.nil _ _ _))) (fun _ _ => by kernel_rfl) x w y h
noncomputable def ref02_Times_re (K : Nat) : RE := funR [(0, .int .u8), (1, .int .u8)] [.int .u8] (fun x w => ref02_Times K x.1 x.2.1)
theorem ref02_Times_ok (K : Nat) : (ref02_Times_re K).Ok prog 36 := funR_ok (Rt := [.int .u8]) (S := (fun x w => ref02_Times K x.1 x.2.1)) ref02_Times_facts fun x w y h => ref02_Times_calls K x w y h

noncomputable def ref11_times_R (K : Nat) : List (Nat × RE) := [(36, ref02_Times_re K)]
theorem ref11_times_Rok (K : Nat) : REnv.Ok prog (tab (ref11_times_R K)) := (REnv.cons (ref02_Times_ok K) (REnv.nil _))
/-- coffer/cofferref11.times -/
noncomputable def ref11_times (K : Nat) (a0 : Int) (b1 : Int) : Option (Int × Unit) :=
  (ref02_Times K a0 b1).bind fun r_1 =>
  some (r_1.1, ())
theorem ref11_times_facts : FunFacts prog 30 f30 (bodyOf f30) [(0, .int .u8), (1, .int .u8)] [(0, 8)] := ⟨func30, by kernel_rfl, by kernel_rfl, by kernel_rfl, by kernel_rfl, by kernel_rfl⟩
theorem ref11_times_calls (K : Nat) (x : TT [(0, .int .u8), (1, .int .u8)]) (w : World) (y : TR [.int .u8]) (h : ref11_times K x.1 x.2.1 = some y) : Calls prog 30 (encA [(0, .int .u8), (1, .int .u8)] x).toArray w (fun e w3 => e = .returned (resV (encR [.int .u8] y)) ∧ w3 = w) :=
    mk_funQ (O := tabL []) (Lp := [(0, .int .u8), (1, .int .u8)]) (Rt := [.int .u8]) (S := (fun x w => ref11_times K x.1 x.2.1)) (ref11_times_Rok K) ref11_times_facts (OrcQ.nil _ _ _) (fun _ _ => by kernel_rfl) x w y h
noncomputable def ref11_times_re (K : Nat) : RE := funR [(0, .int .u8), (1, .int .u8)] [.int .u8] (fun x w => ref11_times K x.1 x.2.1)
theorem ref11_times_ok (K : Nat) : (ref11_times_re K).Ok prog 30 := funR_ok (Rt := [.int .u8]) (S := (fun x w => ref11_times K x.1 x.2.1)) ref11_times_facts fun x w y h => ref11_times_calls K x w y h

noncomputable def ref11_Powers_E (K : Nat) : List (Nat × CE) := []
theorem ref11_Powers_Eok (K : Nat) : Env.Ok prog (tab (ref11_Powers_E K)) := (Env.nil _)
noncomputable def ref11_Powers_R (K : Nat) : List (Nat × RE) := [(30, ref11_times_re K)]
theorem ref11_Powers_Rok (K : Nat) : REnv.Ok prog (tab (ref11_Powers_R K)) := (REnv.cons (ref11_times_ok K) (REnv.nil _))
noncomputable def ref11_Powers_l0_b (K : Nat) (rec : Int → Sl → Int → Int → World → Option ((Sl × Unit) × World)) (n0 : Int) (l3 : Sl) (v4 : Int) (i5 : Int) (w : World) : Option ((Sl × Unit) × World) :=
  if (decide (i5 < n0)) = true then (bnd (bldS prog 25 1 #[(0, (.int .u8 v4))] w) fun s_1 w_2 =>
  bnd (apd prog 25 25 (.slice l3.a l3.len l3.cap) (.slice s_1.a s_1.len s_1.cap) w_2) fun s_3 w_4 =>
  (ref11_times K v4 3).bind fun r_5 =>
  rec n0 s_3 r_5.1 (IntKind.i64.wrap (i5 + 1)) w_4) else (some ((l3, ()), w))
noncomputable def ref11_Powers_l0 (K : Nat) (n : Nat) : Int → Sl → Int → Int → World → Option ((Sl × Unit) × World) := iter (fun _ _ _ _ _ => none) (ref11_Powers_l0_b K) n
/-- coffer/cofferref11.Powers -/
noncomputable def ref11_Powers (K : Nat) (n0 : Int) (w : World) : Option ((Sl × Unit) × World) :=
  bnd (ref11_Powers_l0 K K n0 ⟨none, 0, 0⟩ 1 0 w) fun y_6 w_7 =>
  some ((y_6.1, ()), w_7)
theorem ref11_Powers_l0_ok (K : Nat) (n : Nat) : StmtNOk prog [(0, .int .i64), (3, .sl), (4, .int .u8), (5, .int .i64)] [(3, .sl)] [(3, 17)] ((fun n x w => ref11_Powers_l0 K n x.1 x.2.1 x.2.2.1 x.2.2.2.1 w) n) (.block 0 (.loop (cd (bodyOf f29) [1, 1, 1, 0, 1, 0, 0]))) :=
    mk_loopN (O := tabL []) (root := (bodyOf f29)) (π := [1, 1, 1, 0, 1, 0, 0]) (id := 0) (Li := [(0, .int .i64), (3, .sl), (4, .int .u8), (5, .int .i64)]) (Lo := [(3, .sl)]) (S := (fun n x w => ref11_Powers_l0 K n x.1 x.2.1 x.2.2.1 x.2.2.2.1 w)) (body := cd (bodyOf f29) [1, 1, 1, 0, 1, 0, 0]) (ref11_Powers_Eok K) (ref11_Powers_Rok K) rfl (Orc.nil _ _ _) (by kernel_rfl) (fun _ _ => by kernel_rfl) (fun _ _ _ => by kernel_rfl) n
noncomputable def ref11_Powers_l0_se (K : Nat) : SE := stmtN [(0, .int .i64), (3, .sl), (4, .int .u8), (5, .int .i64)] [(3, .sl)] [(3, 17)] (fun x w => ref11_Powers_l0 K K x.1 x.2.1 x.2.2.1 x.2.2.2.1 w)
theorem ref11_Powers_l0_se_ok (K : Nat) (R : Rg) (h : subRB [(3, 17)] R = true) : (ref11_Powers_l0_se K).Ok prog R (.block 0 (.loop (cd (bodyOf f29) [1, 1, 1, 0, 1, 0, 0]))) := stmtN_ok (Li := [(0, .int .i64), (3, .sl), (4, .int .u8), (5, .int .i64)]) (Lo := [(3, .sl)]) (S := (fun x w => ref11_Powers_l0 K K x.1 x.2.1 x.2.2.1 x.2.2.2.1 w)) (ref11_Powers_l0_ok K K) (subR_of h)
theorem ref11_Powers_facts : FunFacts prog 29 f29 (bodyOf f29) [(0, .int .i64)] [(0, 18)] := ⟨func29, by kernel_rfl, by kernel_rfl, by kernel_rfl, by kernel_rfl, by kernel_rfl⟩
theorem ref11_Powers_calls (K : Nat) (x : TT [(0, .int .i64)]) (w : World) (y : TR [.sl]) (w2 : World) (h : ref11_Powers K x.1 w = some (y, w2)) : Calls prog 29 (encA [(0, .int .i64)] x).toArray w (fun e w3 => e = .returned (resV (encR [.sl] y)) ∧ w3 = w2) :=
    mk_fun (O := tabL [([1, 1, 1, 0, 1], ref11_Powers_l0_se K)]) (Lp := [(0, .int .i64)]) (Rt := [.sl]) (S := (fun x w => ref11_Powers K x.1 w)) (ref11_Powers_Eok K) (ref11_Powers_Rok K) rfl ref11_Powers_facts (Orc.cons (by kernel_rfl) (ref11_Powers_l0_se_ok K [(0, 18)] (by kernel_rfl)) (Orc.nil _ _ _)) (fun _ _ => by kernel_rfl) x w y w2 h
noncomputable def ref11_Powers_ce (K : Nat) : CE := funE [(0, .int .i64)] [.sl] (fun x w => ref11_Powers K x.1 w)
theorem ref11_Powers_ok (K : Nat) : (ref11_Powers_ce K).Ok prog 29 := funE_ok (Rt := [.sl]) (S := (fun x w => ref11_Powers K x.1 w)) ref11_Powers_facts fun x w y w2 h => ref11_Powers_calls K x w y w2 h

noncomputable def ref11_Sums_E (K : Nat) : List (Nat × CE) := [(29, ref11_Powers_ce K)]
theorem ref11_Sums_Eok (K : Nat) : Env.Ok prog (tab (ref11_Sums_E K)) := (Env.cons (ref11_Powers_ok K) (Env.nil _))
noncomputable def ref11_Sums_R (K : Nat) : List (Nat × RE) := [(30, ref11_times_re K)]
theorem ref11_Sums_Rok (K : Nat) : REnv.Ok prog (tab (ref11_Sums_R K)) := (REnv.cons (ref11_times_ok K) (REnv.nil _))
noncomputable def ref11_Sums_l1_b (K : Nat) (rec : Sl → Addr → Addr → Sl → Int → Int → Int → World → Option ((Unit) × World)) (b0 : Sl) (a2 : Addr) (s3 : Addr) (p4 : Sl) (n5 : Int) (i6 : Int) (j7 : Int) (w : World) : Option ((Unit) × World) :=
  if (decide (j7 < 4)) = true then (if (0 : Int) ≤ j7 ∧ j7 < ((4 : Nat) : Int) then ((b0.a).bind fun p_7 =>
  if (0 : Int) ≤ i6 ∧ i6 < ((b0.len : Nat) : Int) then ((p4.a).bind fun p_8 =>
  if (0 : Int) ≤ (Int.tmod (IntKind.i64.wrap (j7 * (IntKind.i64.wrap ((IntKind.i64.wrap (n5 - 1)) - i6)))) 255) ∧ (Int.tmod (IntKind.i64.wrap (j7 * (IntKind.i64.wrap ((IntKind.i64.wrap (n5 - 1)) - i6)))) 255) < ((p4.len : Nat) : Int) then ((ldI .u8 (s3.add ((Int.toNat j7) * 1)) w.drew).bind fun v_9 =>
  (ldI .u8 (p_7.add ((Int.toNat i6) * 1)) w.drew).bind fun v_10 =>
  (ldI .u8 (p_8.add ((Int.toNat (Int.tmod (IntKind.i64.wrap (j7 * (IntKind.i64.wrap ((IntKind.i64.wrap (n5 - 1)) - i6)))) 255)) * 1)) w.drew).bind fun v_11 =>
  (ref11_times K v_10 v_11).bind fun r_12 =>
  if (0 : Int) ≤ j7 ∧ j7 < ((4 : Nat) : Int) then ((stC (s3.add ((Int.toNat j7) * 1)) (.int .u8 (bits .xor .u8 v_9 r_12.1)) w.drew).bind fun w_13 =>
  rec b0 a2 s3 p4 n5 i6 (IntKind.i64.wrap (j7 + 1)) w_13) else none) else none) else none) else none) else (some ((), w))
noncomputable def ref11_Sums_l1 (K : Nat) (n : Nat) : Sl → Addr → Addr → Sl → Int → Int → Int → World → Option ((Unit) × World) := iter (fun _ _ _ _ _ _ _ _ => none) (ref11_Sums_l1_b K) n
noncomputable def ref11_Sums_l0_b (K : Nat) (rec : Sl → Addr → Addr → Sl → Int → Int → World → Option ((Unit) × World)) (b0 : Sl) (a2 : Addr) (s3 : Addr) (p4 : Sl) (n5 : Int) (i6 : Int) (w : World) : Option ((Unit) × World) :=
  if (decide (i6 < n5)) = true then (bnd (ref11_Sums_l1 K K b0 a2 s3 p4 n5 i6 0 w) fun y_14 w_15 =>
  rec b0 a2 s3 p4 n5 (IntKind.i64.wrap (i6 + 1)) w_15) else (some ((), w))
noncomputable def ref11_Sums_l0 (K : Nat) (n : Nat) : Sl → Addr → Addr → Sl → Int → Int → World → Option ((Unit) × World) := iter (fun _ _ _ _ _ _ _ => none) (ref11_Sums_l0_b K) n
/-- coffer/cofferref11.Sums -/
noncomputable def ref11_Sums (K : Nat) (b0 : Sl) (w : World) : Option (((Array Value) × Unit) × World) :=
  bnd (newB z60 60 w) fun p_1 w_2 =>
  bnd (newB z60 60 w_2) fun s_3 w_4 =>
  bnd (ref11_Powers K 255 w_4) fun r_5 w_6 =>
  bnd (ref11_Sums_l0 K K b0 p_1 s_3 r_5.1 ((b0.len : Nat) : Int) 0 w_6) fun y_16 w_17 =>
  (ldA 4 s_3 w_17).bind fun v_18 =>
  if (v_18).size = 4 then ((stA p_1 v_18 w_17).bind fun w_19 =>
  (ldA 4 p_1 w_19).bind fun res_20 =>
  some ((res_20, ()), w_19)) else none
theorem ref11_Sums_l1_ok (K : Nat) (n : Nat) : StmtNOk prog [(0, .sl), (2, .addr), (3, .addr), (4, .sl), (5, .int .i64), (6, .int .i64), (7, .int .i64)] [] [(7, 8), (16, 41)] ((fun n x w => ref11_Sums_l1 K n x.1 x.2.1 x.2.2.1 x.2.2.2.1 x.2.2.2.2.1 x.2.2.2.2.2.1 x.2.2.2.2.2.2.1 w) n) (.block 2 (.loop (cd (bodyOf f28) [1, 1, 1, 1, 0, 1, 0, 0, 1, 0, 0, 1, 0, 0]))) :=
    mk_loopN (O := tabL []) (root := (bodyOf f28)) (π := [1, 1, 1, 1, 0, 1, 0, 0, 1, 0, 0, 1, 0, 0]) (id := 2) (Li := [(0, .sl), (2, .addr), (3, .addr), (4, .sl), (5, .int .i64), (6, .int .i64), (7, .int .i64)]) (Lo := []) (S := (fun n x w => ref11_Sums_l1 K n x.1 x.2.1 x.2.2.1 x.2.2.2.1 x.2.2.2.2.1 x.2.2.2.2.2.1 x.2.2.2.2.2.2.1 w)) (body := cd (bodyOf f28) [1, 1, 1, 1, 0, 1, 0, 0, 1, 0, 0, 1, 0, 0]) (ref11_Sums_Eok K) (ref11_Sums_Rok K) rfl (Orc.nil _ _ _) (by kernel_rfl) (fun _ _ => by kernel_rfl) (fun _ _ _ => by kernel_rfl) n
noncomputable def ref11_Sums_l1_se (K : Nat) : SE := stmtN [(0, .sl), (2, .addr), (3, .addr), (4, .sl), (5, .int .i64), (6, .int .i64), (7, .int .i64)] [] [(7, 8), (16, 41)] (fun x w => ref11_Sums_l1 K K x.1 x.2.1 x.2.2.1 x.2.2.2.1 x.2.2.2.2.1 x.2.2.2.2.2.1 x.2.2.2.2.2.2.1 w)
theorem ref11_Sums_l1_se_ok (K : Nat) (R : Rg) (h : subRB [(7, 8), (16, 41)] R = true) : (ref11_Sums_l1_se K).Ok prog R (.block 2 (.loop (cd (bodyOf f28) [1, 1, 1, 1, 0, 1, 0, 0, 1, 0, 0, 1, 0, 0]))) := stmtN_ok (Li := [(0, .sl), (2, .addr), (3, .addr), (4, .sl), (5, .int .i64), (6, .int .i64), (7, .int .i64)]) (Lo := []) (S := (fun x w => ref11_Sums_l1 K K x.1 x.2.1 x.2.2.1 x.2.2.2.1 x.2.2.2.2.1 x.2.2.2.2.2.1 x.2.2.2.2.2.2.1 w)) (ref11_Sums_l1_ok K K) (subR_of h)
theorem ref11_Sums_l0_ok (K : Nat) (n : Nat) : StmtNOk prog [(0, .sl), (2, .addr), (3, .addr), (4, .sl), (5, .int .i64), (6, .int .i64)] [] [(6, 8), (11, 41)] ((fun n x w => ref11_Sums_l0 K n x.1 x.2.1 x.2.2.1 x.2.2.2.1 x.2.2.2.2.1 x.2.2.2.2.2.1 w) n) (.block 0 (.loop (cd (bodyOf f28) [1, 1, 1, 1, 0, 1, 0, 0]))) :=
    mk_loopN (O := tabL [([1, 1, 1, 1, 0, 1, 0, 0, 1, 0, 0, 1], ref11_Sums_l1_se K)]) (root := (bodyOf f28)) (π := [1, 1, 1, 1, 0, 1, 0, 0]) (id := 0) (Li := [(0, .sl), (2, .addr), (3, .addr), (4, .sl), (5, .int .i64), (6, .int .i64)]) (Lo := []) (S := (fun n x w => ref11_Sums_l0 K n x.1 x.2.1 x.2.2.1 x.2.2.2.1 x.2.2.2.2.1 x.2.2.2.2.2.1 w)) (body := cd (bodyOf f28) [1, 1, 1, 1, 0, 1, 0, 0]) (ref11_Sums_Eok K) (ref11_Sums_Rok K) rfl (Orc.cons (by kernel_rfl) (ref11_Sums_l1_se_ok K [(6, 8), (11, 41)] (by kernel_rfl)) (Orc.nil _ _ _)) (by kernel_rfl) (fun _ _ => by kernel_rfl) (fun _ _ _ => by kernel_rfl) n
noncomputable def ref11_Sums_l0_se (K : Nat) : SE := stmtN [(0, .sl), (2, .addr), (3, .addr), (4, .sl), (5, .int .i64), (6, .int .i64)] [] [(6, 8), (11, 41)] (fun x w => ref11_Sums_l0 K K x.1 x.2.1 x.2.2.1 x.2.2.2.1 x.2.2.2.2.1 x.2.2.2.2.2.1 w)
theorem ref11_Sums_l0_se_ok (K : Nat) (R : Rg) (h : subRB [(6, 8), (11, 41)] R = true) : (ref11_Sums_l0_se K).Ok prog R (.block 0 (.loop (cd (bodyOf f28) [1, 1, 1, 1, 0, 1, 0, 0]))) := stmtN_ok (Li := [(0, .sl), (2, .addr), (3, .addr), (4, .sl), (5, .int .i64), (6, .int .i64)]) (Lo := []) (S := (fun x w => ref11_Sums_l0 K K x.1 x.2.1 x.2.2.1 x.2.2.2.1 x.2.2.2.2.1 x.2.2.2.2.2.1 w)) (ref11_Sums_l0_ok K K) (subR_of h)
theorem ref11_Sums_facts : FunFacts prog 28 f28 (bodyOf f28) [(0, .sl)] [(0, 42)] := ⟨func28, by kernel_rfl, by kernel_rfl, by kernel_rfl, by kernel_rfl, by kernel_rfl⟩
theorem ref11_Sums_calls (K : Nat) (x : TT [(0, .sl)]) (w : World) (y : TR [.agg]) (w2 : World) (h : ref11_Sums K x.1 w = some (y, w2)) : Calls prog 28 (encA [(0, .sl)] x).toArray w (fun e w3 => e = .returned (resV (encR [.agg] y)) ∧ w3 = w2) :=
    mk_fun (O := tabL [([1, 1, 1, 1, 0, 1], ref11_Sums_l0_se K), ([1, 1, 1, 1, 0, 1, 0, 0, 1, 0, 0, 1], ref11_Sums_l1_se K)]) (Lp := [(0, .sl)]) (Rt := [.agg]) (S := (fun x w => ref11_Sums K x.1 w)) (ref11_Sums_Eok K) (ref11_Sums_Rok K) rfl ref11_Sums_facts (Orc.cons (by kernel_rfl) (ref11_Sums_l0_se_ok K [(0, 42)] (by kernel_rfl)) (Orc.cons (by kernel_rfl) (ref11_Sums_l1_se_ok K [(0, 42)] (by kernel_rfl)) (Orc.nil _ _ _))) (fun _ _ => by kernel_rfl) x w y w2 h
noncomputable def ref11_Sums_ce (K : Nat) : CE := funE [(0, .sl)] [.agg] (fun x w => ref11_Sums K x.1 w)
theorem ref11_Sums_ok (K : Nat) : (ref11_Sums_ce K).Ok prog 28 := funE_ok (Rt := [.agg]) (S := (fun x w => ref11_Sums K x.1 w)) ref11_Sums_facts fun x w y w2 h => ref11_Sums_calls K x w y w2 h

end Go.Sh
