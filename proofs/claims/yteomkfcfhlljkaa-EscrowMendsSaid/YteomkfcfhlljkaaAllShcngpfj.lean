/- Texts of this claim, put together: Sh2, Sh3 -/
import Derived.Test.YteomkfcfhlljkaaAllShihemji
/- What functions of the program do, as Lean functions; that the machine does just that. Printed by shal.py, a program of this claim's writer. -/
set_option maxRecDepth 100000
set_option linter.unusedVariables false
namespace Go.Sh
open Go.Fw Go.Proofs.Try

noncomputable def ref11_Fits_E : List (Nat × CE) := []
theorem ref11_Fits_Eok : Env.Ok prog (tab (ref11_Fits_E)) := (Env.nil _)
noncomputable def ref11_Fits_R : List (Nat × RE) := []
theorem ref11_Fits_Rok : REnv.Ok prog (tab (ref11_Fits_R)) := (REnv.nil _)
noncomputable def ref11_Fits_s0 (b0 : Sl) (w : World) : Option ((Addr × Unit) × World) :=
  (b0.a).bind fun p_6 =>
  if (0 : Int) ≤ 0 ∧ 0 < ((b0.len : Nat) : Int) then ((b0.a).bind fun p_7 =>
  if (0 : Int) ≤ 1 ∧ 1 < ((b0.len : Nat) : Int) then ((b0.a).bind fun p_8 =>
  if (0 : Int) ≤ 2 ∧ 2 < ((b0.len : Nat) : Int) then ((b0.a).bind fun p_9 =>
  if (0 : Int) ≤ 3 ∧ 3 < ((b0.len : Nat) : Int) then ((b0.a).bind fun p_10 =>
  if (0 : Int) ≤ 4 ∧ 4 < ((b0.len : Nat) : Int) then ((ldI .u8 (p_6.add (0 * 1)) w.drew).bind fun v_11 =>
  (ldI .u8 (p_7.add (1 * 1)) w.drew).bind fun v_12 =>
  (ldI .u8 (p_8.add (2 * 1)) w.drew).bind fun v_13 =>
  (ldI .u8 (p_9.add (3 * 1)) w.drew).bind fun v_14 =>
  (ldI .u8 (p_10.add (4 * 1)) w.drew).bind fun v_15 =>
  (prog.built 33 [(0, (.int .u16 (IntKind.u16.wrap ((IntKind.u16.wrap ((IntKind.u16.wrap v_11) * 256)) + (IntKind.u16.wrap v_12))))), (1, (.int .i64 (IntKind.i64.wrap v_13))), (2, (.int .i64 (IntKind.i64.wrap v_14))), (3, (.int .i64 (IntKind.i64.wrap v_15)))]).bind fun cs_16 =>
  bnd (newB z33 33 w.drew) fun s_17 w_18 =>
  (ldI .u8 (p_10.add (4 * 1)) w_18).bind fun v_19 =>
  sameK (.int .u8 v_15) (.int .u8 v_19) ((ldI .u8 (p_9.add (3 * 1)) w_18).bind fun v_20 =>
  sameK (.int .u8 v_14) (.int .u8 v_20) ((ldI .u8 (p_8.add (2 * 1)) w_18).bind fun v_21 =>
  sameK (.int .u8 v_13) (.int .u8 v_21) ((ldI .u8 (p_7.add (1 * 1)) w_18).bind fun v_22 =>
  sameK (.int .u8 v_12) (.int .u8 v_22) ((ldI .u8 (p_6.add (0 * 1)) w_18).bind fun v_23 =>
  sameK (.int .u8 v_11) (.int .u8 v_23) (if (cs_16).size = 4 then ((stA s_17 cs_16 w_18).bind fun w_24 =>
  (ldI .u8 (p_10.add (4 * 1)) w_24).bind fun v_25 =>
  sameK (.int .u8 v_15) (.int .u8 v_25) ((ldI .u8 (p_9.add (3 * 1)) w_24).bind fun v_26 =>
  sameK (.int .u8 v_14) (.int .u8 v_26) ((ldI .u8 (p_8.add (2 * 1)) w_24).bind fun v_27 =>
  sameK (.int .u8 v_13) (.int .u8 v_27) ((ldI .u8 (p_7.add (1 * 1)) w_24).bind fun v_28 =>
  sameK (.int .u8 v_12) (.int .u8 v_28) ((ldI .u8 (p_6.add (0 * 1)) w_24).bind fun v_29 =>
  sameK (.int .u8 v_11) (.int .u8 v_29) (some ((s_17, ()), w_24))))))) else none)))))) else none) else none) else none) else none) else none
noncomputable def ref11_Fits_s1 (l7 : Int) (a43 : Bool) (w : World) : Option ((Int × Unit) × World) :=
  if a43 = true then (some (((IntKind.i64.wrap (l7 + 1)), ()), w)) else (some ((l7, ()), w))
noncomputable def ref11_Fits_s2 (b0 : Sl) (s5 : Addr) (n6 : Int) (l7 : Int) (w : World) : Option ((Bool × Unit) × World) :=
  (ldI .i64 (s5.add 1) w).bind fun v_35 =>
  if (decide (v_35 < 1)) = true then (some ((true, ()), w)) else ((ldI .i64 (s5.add 1) w).bind fun v_36 =>
  if (decide (v_36 > 16)) = true then (some ((true, ()), w)) else ((ldI .i64 (s5.add 2) w).bind fun v_37 =>
  if (decide (v_37 < 1)) = true then (some ((true, ()), w)) else ((ldI .i64 (s5.add 3) w).bind fun v_38 =>
  if (decide (v_38 < 1)) = true then (some ((true, ()), w)) else ((ldI .i64 (s5.add 3) w).bind fun v_39 =>
  if (decide (v_39 > 64)) = true then (some ((true, ()), w)) else (if (l7 != ((b0.len : Nat) : Int)) = true then (some ((true, ()), w)) else (if ((Int.tmod (IntKind.i64.wrap (5 + n6)) 2) == 1) = true then ((b0.a).bind fun p_40 =>
  if (0 : Int) ≤ (IntKind.i64.wrap (5 + n6)) ∧ (IntKind.i64.wrap (5 + n6)) < ((b0.len : Nat) : Int) then ((ldI .u8 (p_40.add ((Int.toNat (IntKind.i64.wrap (5 + n6))) * 1)) w).bind fun v_41 =>
  some (((v_41 != 0), ()), w)) else none) else (some ((false, ()), w))))))))
noncomputable def ref11_Fits_s3 (b0 : Sl) (a2 : Addr) (a3 : Sl) (a4 : Bool) (s5 : Addr) (n6 : Int) (w : World) : Option ((Sl × Bool × Unit) × World) :=
  if (0 : Int) ≤ (IntKind.i64.wrap (5 + n6)) ∧ (IntKind.i64.wrap (5 + n6)) ≤ ((b0.cap : Nat) : Int) then (if (0 : Int) ≤ 5 ∧ 5 ≤ (((Int.toNat ((IntKind.i64.wrap (5 + n6)))) : Nat) : Int) then ((ldA 4 s5 w.drew).bind fun v_47 =>
  bnd (bldS prog 25 0 #[] w.drew) fun s_48 w_49 =>
  (ldA 4 s5 w_49).bind fun v_50 =>
  sameK (.agg v_47) (.agg v_50) (bnd (apd prog 25 25 (.slice s_48.a s_48.len s_48.cap) (.slice (sla b0.a 5 b0.cap 1) ((Int.toNat ((IntKind.i64.wrap (5 + n6)))) - 5) (b0.cap - 5)) w_49) fun s_51 w_52 =>
  (ldA 4 s5 w_52).bind fun v_53 =>
  sameK (.agg v_47) (.agg v_53) (if (v_47).size = 4 then ((stA a2 v_47 w_52).bind fun w_54 =>
  (ldA 4 s5 w_54).bind fun v_55 =>
  sameK (.agg v_47) (.agg v_55) (some ((s_51, true, ()), w_54))) else none))) else none) else none
/-- coffer/cofferref11.Fits -/
noncomputable def ref11_Fits (b0 : Sl) (w : World) : Option (((Array Value) × Sl × Bool × Unit) × World) :=
  bnd (newB z33 33 w) fun p_1 w_2 =>
  if (decide (((b0.len : Nat) : Int) < 14)) = true then ((prog.built 33 []).bind fun cs_3 =>
  if (cs_3).size = 4 then ((stA p_1 cs_3 w_2).bind fun w_4 =>
  (ldA 4 p_1 w_4).bind fun res_5 =>
  some ((res_5, ⟨none, 0, 0⟩, false, ()), w_4)) else none) else (bnd (ref11_Fits_s0 b0 w_2) fun y_30 w_31 =>
  (ldI .i64 (y_30.1.add 3) w_31).bind fun v_32 =>
  bnd (ref11_Fits_s1 (IntKind.i64.wrap ((IntKind.i64.wrap (5 + (IntKind.i64.wrap (v_32 + 4)))) + 4)) ((Int.tmod (IntKind.i64.wrap ((IntKind.i64.wrap (5 + (IntKind.i64.wrap (v_32 + 4)))) + 4)) 2) == 1) w_31) fun y_33 w_34 =>
  bnd (ref11_Fits_s2 b0 y_30.1 (IntKind.i64.wrap (v_32 + 4)) y_33.1 w_34) fun y_42 w_43 =>
  if y_42.1 = true then ((prog.built 33 []).bind fun cs_44 =>
  if (cs_44).size = 4 then ((stA p_1 cs_44 w_43).bind fun w_45 =>
  (ldA 4 p_1 w_45).bind fun res_46 =>
  some ((res_46, ⟨none, 0, 0⟩, false, ()), w_45)) else none) else (bnd (ref11_Fits_s3 b0 p_1 ⟨none, 0, 0⟩ false y_30.1 (IntKind.i64.wrap (v_32 + 4)) w_43) fun y_56 w_57 =>
  (ldA 4 p_1 w_57).bind fun res_58 =>
  some ((res_58, y_56.1, y_56.2.1, ()), w_57)))
theorem ref11_Fits_s0_ok : StmtNOk prog [(0, .sl)] [(5, .addr)] [(5, 6), (12, 35)] (fun x w => ref11_Fits_s0 x.1 w) (cd (bodyOf f22) [1, 1, 0]) :=
    mk_regionH (R := [(5, 6), (12, 35)]) (Li := [(0, .sl)]) (Lo := [(5, .addr)]) (S := (fun x w => ref11_Fits_s0 x.1 w)) (ref11_Fits_Eok) (ref11_Fits_Rok) rfl (fun _ _ => by kernel_rfl)
noncomputable def ref11_Fits_s0_se : SE := stmtN [(0, .sl)] [(5, .addr)] [(5, 6), (12, 35)] (fun x w => ref11_Fits_s0 x.1 w)
theorem ref11_Fits_s0_se_ok (R : Rg) (h : subRB [(5, 6), (12, 35)] R = true) : (ref11_Fits_s0_se).Ok prog R (cd (bodyOf f22) [1, 1, 0]) := stmtN_ok (Li := [(0, .sl)]) (Lo := [(5, .addr)]) (S := (fun x w => ref11_Fits_s0 x.1 w)) (ref11_Fits_s0_ok) (subR_of h)
theorem ref11_Fits_s1_ok : StmtNOk prog [(7, .int .i64), (43, .bool)] [(7, .int .i64)] [(7, 8), (44, 46)] (fun x w => ref11_Fits_s1 x.1 x.2.1 w) (cd (bodyOf f22) [1, 1, 1, 1, 1, 0, 1]) :=
    mk_stmtN (O := tabL []) (root := (bodyOf f22)) (π := [1, 1, 1, 1, 1, 0, 1]) (Li := [(7, .int .i64), (43, .bool)]) (Lo := [(7, .int .i64)]) (S := (fun x w => ref11_Fits_s1 x.1 x.2.1 w)) (ref11_Fits_Eok) (ref11_Fits_Rok) rfl (Orc.nil _ _ _) (by kernel_rfl) (fun _ _ => by kernel_rfl)
noncomputable def ref11_Fits_s1_se : SE := stmtN [(7, .int .i64), (43, .bool)] [(7, .int .i64)] [(7, 8), (44, 46)] (fun x w => ref11_Fits_s1 x.1 x.2.1 w)
theorem ref11_Fits_s1_se_ok (R : Rg) (h : subRB [(7, 8), (44, 46)] R = true) : (ref11_Fits_s1_se).Ok prog R (cd (bodyOf f22) [1, 1, 1, 1, 1, 0, 1]) := stmtN_ok (Li := [(7, .int .i64), (43, .bool)]) (Lo := [(7, .int .i64)]) (S := (fun x w => ref11_Fits_s1 x.1 x.2.1 w)) (ref11_Fits_s1_ok) (subR_of h)
theorem ref11_Fits_s2_ok : StmtNOk prog [(0, .sl), (5, .addr), (6, .int .i64), (7, .int .i64)] [(88, .bool)] [(46, 89)] (fun x w => ref11_Fits_s2 x.1 x.2.1 x.2.2.1 x.2.2.2.1 w) (cd (bodyOf f22) [1, 1, 1, 1, 1, 1, 0, 0]) :=
    mk_stmtN (O := tabL []) (root := (bodyOf f22)) (π := [1, 1, 1, 1, 1, 1, 0, 0]) (Li := [(0, .sl), (5, .addr), (6, .int .i64), (7, .int .i64)]) (Lo := [(88, .bool)]) (S := (fun x w => ref11_Fits_s2 x.1 x.2.1 x.2.2.1 x.2.2.2.1 w)) (ref11_Fits_Eok) (ref11_Fits_Rok) rfl (Orc.nil _ _ _) (by kernel_rfl) (fun _ _ => by kernel_rfl)
noncomputable def ref11_Fits_s2_se : SE := stmtN [(0, .sl), (5, .addr), (6, .int .i64), (7, .int .i64)] [(88, .bool)] [(46, 89)] (fun x w => ref11_Fits_s2 x.1 x.2.1 x.2.2.1 x.2.2.2.1 w)
theorem ref11_Fits_s2_se_ok (R : Rg) (h : subRB [(46, 89)] R = true) : (ref11_Fits_s2_se).Ok prog R (cd (bodyOf f22) [1, 1, 1, 1, 1, 1, 0, 0]) := stmtN_ok (Li := [(0, .sl), (5, .addr), (6, .int .i64), (7, .int .i64)]) (Lo := [(88, .bool)]) (S := (fun x w => ref11_Fits_s2 x.1 x.2.1 x.2.2.1 x.2.2.2.1 w)) (ref11_Fits_s2_ok) (subR_of h)
theorem ref11_Fits_s3_ok : StmtNOk prog [(0, .sl), (2, .addr), (3, .sl), (4, .bool), (5, .addr), (6, .int .i64)] [(3, .sl), (4, .bool)] [(3, 5), (90, 97)] (fun x w => ref11_Fits_s3 x.1 x.2.1 x.2.2.1 x.2.2.2.1 x.2.2.2.2.1 x.2.2.2.2.2.1 w) (cd (bodyOf f22) [1, 1, 1, 1, 1, 1, 1, 0]) :=
    mk_regionH (R := [(3, 5), (90, 97)]) (Li := [(0, .sl), (2, .addr), (3, .sl), (4, .bool), (5, .addr), (6, .int .i64)]) (Lo := [(3, .sl), (4, .bool)]) (S := (fun x w => ref11_Fits_s3 x.1 x.2.1 x.2.2.1 x.2.2.2.1 x.2.2.2.2.1 x.2.2.2.2.2.1 w)) (ref11_Fits_Eok) (ref11_Fits_Rok) rfl (fun _ _ => by kernel_rfl)
noncomputable def ref11_Fits_s3_se : SE := stmtN [(0, .sl), (2, .addr), (3, .sl), (4, .bool), (5, .addr), (6, .int .i64)] [(3, .sl), (4, .bool)] [(3, 5), (90, 97)] (fun x w => ref11_Fits_s3 x.1 x.2.1 x.2.2.1 x.2.2.2.1 x.2.2.2.2.1 x.2.2.2.2.2.1 w)
theorem ref11_Fits_s3_se_ok (R : Rg) (h : subRB [(3, 5), (90, 97)] R = true) : (ref11_Fits_s3_se).Ok prog R (cd (bodyOf f22) [1, 1, 1, 1, 1, 1, 1, 0]) := stmtN_ok (Li := [(0, .sl), (2, .addr), (3, .sl), (4, .bool), (5, .addr), (6, .int .i64)]) (Lo := [(3, .sl), (4, .bool)]) (S := (fun x w => ref11_Fits_s3 x.1 x.2.1 x.2.2.1 x.2.2.2.1 x.2.2.2.2.1 x.2.2.2.2.2.1 w)) (ref11_Fits_s3_ok) (subR_of h)
theorem ref11_Fits_facts : FunFacts prog 22 f22 (bodyOf f22) [(0, .sl)] [(0, 97)] := ⟨func22, by kernel_rfl, by kernel_rfl, by kernel_rfl, by kernel_rfl, by kernel_rfl⟩
theorem ref11_Fits_calls (x : TT [(0, .sl)]) (w : World) (y : TR [.agg, .sl, .bool]) (w2 : World) (h : ref11_Fits x.1 w = some (y, w2)) : Calls prog 22 (encA [(0, .sl)] x).toArray w (fun e w3 => e = .returned (resV (encR [.agg, .sl, .bool] y)) ∧ w3 = w2) :=
    mk_fun (O := tabL [([1, 1, 0], ref11_Fits_s0_se), ([1, 1, 1, 1, 1, 0, 1], ref11_Fits_s1_se), ([1, 1, 1, 1, 1, 1, 0, 0], ref11_Fits_s2_se), ([1, 1, 1, 1, 1, 1, 1, 0], ref11_Fits_s3_se)]) (Lp := [(0, .sl)]) (Rt := [.agg, .sl, .bool]) (S := (fun x w => ref11_Fits x.1 w)) (ref11_Fits_Eok) (ref11_Fits_Rok) rfl ref11_Fits_facts (Orc.cons (by kernel_rfl) (ref11_Fits_s0_se_ok [(0, 97)] (by kernel_rfl)) (Orc.cons (by kernel_rfl) (ref11_Fits_s1_se_ok [(0, 97)] (by kernel_rfl)) (Orc.cons (by kernel_rfl) (ref11_Fits_s2_se_ok [(0, 97)] (by kernel_rfl)) (Orc.cons (by kernel_rfl) (ref11_Fits_s3_se_ok [(0, 97)] (by kernel_rfl)) (Orc.nil _ _ _))))) (fun _ _ => by kernel_rfl) x w y w2 h
noncomputable def ref11_Fits_ce : CE := funE [(0, .sl)] [.agg, .sl, .bool] (fun x w => ref11_Fits x.1 w)
theorem ref11_Fits_ok : (ref11_Fits_ce).Ok prog 22 := funE_ok (Rt := [.agg, .sl, .bool]) (S := (fun x w => ref11_Fits x.1 w)) ref11_Fits_facts fun x w y w2 h => ref11_Fits_calls x w y w2 h

noncomputable def ref11_Mend_E (K : Nat) : List (Nat × CE) := [(20, ref11_Read_ce K), (21, ref11_near_ce K), (22, ref11_Fits_ce)]
theorem ref11_Mend_Eok (K : Nat) : Env.Ok prog (tab (ref11_Mend_E K)) := (Env.cons (ref11_Read_ok K) (Env.cons (ref11_near_ok K) (Env.cons (ref11_Fits_ok) (Env.nil _))))
noncomputable def ref11_Mend_R (K : Nat) : List (Nat × RE) := []
theorem ref11_Mend_Rok (K : Nat) : REnv.Ok prog (tab (ref11_Mend_R K)) := (REnv.nil _)
noncomputable def ref11_Mend_s0 (K : Nat) (b4 : Sl) (w : World) : Option ((Bool × Unit) × World) :=
  if (decide (((b4.len : Nat) : Int) < 14)) = true then (some ((true, ()), w)) else (some (((decide (((b4.len : Nat) : Int) > 78)), ()), w))
/-- coffer/cofferref11.Mend -/
noncomputable def ref11_Mend (K : Nat) (s0 : ByteArray) (w : World) : Option (((Array Value) × Int × Unit) × World) :=
  bnd (newB z35 35 w) fun p_1 w_2 =>
  if (decide (((s0.size : Nat) : Int) > 1024)) = true then ((prog.built 35 []).bind fun cs_3 =>
  if (cs_3).size = 6 then ((stA p_1 cs_3 w_2).bind fun w_4 =>
  (ldA 6 p_1 w_4).bind fun res_5 =>
  some ((res_5, 4, ()), w_4)) else none) else (bnd (ref11_Read K s0 w_2) fun r_6 w_7 =>
  if (!r_6.2.1) = true then ((prog.built 35 []).bind fun cs_8 =>
  if (cs_8).size = 6 then ((stA p_1 cs_8 w_7).bind fun w_9 =>
  (ldA 6 p_1 w_9).bind fun res_10 =>
  some ((res_10, 112, ()), w_9)) else none) else (bnd (ref11_Mend_s0 K r_6.1 w_7) fun y_11 w_12 =>
  if y_11.1 = true then ((prog.built 35 []).bind fun cs_13 =>
  if (cs_13).size = 6 then ((stA p_1 cs_13 w_12).bind fun w_14 =>
  (ldA 6 p_1 w_14).bind fun res_15 =>
  some ((res_15, 113, ()), w_14)) else none) else (bnd (ref11_near K r_6.1 w_12) fun r_16 w_17 =>
  if (!r_16.2.2.1) = true then ((prog.built 35 []).bind fun cs_18 =>
  if (cs_18).size = 6 then ((stA p_1 cs_18 w_17).bind fun w_19 =>
  (ldA 6 p_1 w_19).bind fun res_20 =>
  some ((res_20, 113, ()), w_19)) else none) else (bnd (ref11_Fits r_16.1 w_17) fun r_21 w_22 =>
  bnd (newB z33 33 w_22) fun share_23 w_24 =>
  if (r_21.1).size = 4 then ((stA share_23 r_21.1 w_24).bind fun w_25 =>
  if (!r_21.2.2.1) = true then ((prog.built 35 []).bind fun cs_26 =>
  if (cs_26).size = 6 then ((stA p_1 cs_26 w_25).bind fun w_27 =>
  (ldA 6 p_1 w_27).bind fun res_28 =>
  some ((res_28, 113, ()), w_27)) else none) else ((ldA 4 share_23 w_25).bind fun v_29 =>
  (prog.built 35 [(0, (.agg v_29)), (1, (.slice r_21.2.1.a r_21.2.1.len r_21.2.1.cap)), (2, (.int .i64 r_16.2.1))]).bind fun cs_30 =>
  if (cs_30).size = 6 then ((stA p_1 cs_30 w_25).bind fun w_31 =>
  (ldA 6 p_1 w_31).bind fun res_32 =>
  some ((res_32, 0, ()), w_31)) else none)) else none))))
theorem ref11_Mend_s0_ok (K : Nat) : StmtNOk prog [(4, .sl)] [(31, .bool)] [(24, 32)] (fun x w => ref11_Mend_s0 K x.1 w) (cd (bodyOf f14) [1, 1, 1, 1, 0, 0]) :=
    mk_stmtN (O := tabL []) (root := (bodyOf f14)) (π := [1, 1, 1, 1, 0, 0]) (Li := [(4, .sl)]) (Lo := [(31, .bool)]) (S := (fun x w => ref11_Mend_s0 K x.1 w)) (ref11_Mend_Eok K) (ref11_Mend_Rok K) rfl (Orc.nil _ _ _) (by kernel_rfl) (fun _ _ => by kernel_rfl)
noncomputable def ref11_Mend_s0_se (K : Nat) : SE := stmtN [(4, .sl)] [(31, .bool)] [(24, 32)] (fun x w => ref11_Mend_s0 K x.1 w)
theorem ref11_Mend_s0_se_ok (K : Nat) (R : Rg) (h : subRB [(24, 32)] R = true) : (ref11_Mend_s0_se K).Ok prog R (cd (bodyOf f14) [1, 1, 1, 1, 0, 0]) := stmtN_ok (Li := [(4, .sl)]) (Lo := [(31, .bool)]) (S := (fun x w => ref11_Mend_s0 K x.1 w)) (ref11_Mend_s0_ok K) (subR_of h)
theorem ref11_Mend_facts : FunFacts prog 14 f14 (bodyOf f14) [(0, .str)] [(0, 55)] := ⟨func14, by kernel_rfl, by kernel_rfl, by kernel_rfl, by kernel_rfl, by kernel_rfl⟩
theorem ref11_Mend_calls (K : Nat) (x : TT [(0, .str)]) (w : World) (y : TR [.agg, .int .i64]) (w2 : World) (h : ref11_Mend K x.1 w = some (y, w2)) : Calls prog 14 (encA [(0, .str)] x).toArray w (fun e w3 => e = .returned (resV (encR [.agg, .int .i64] y)) ∧ w3 = w2) :=
    mk_fun (O := tabL [([1, 1, 1, 1, 0, 0], ref11_Mend_s0_se K)]) (Lp := [(0, .str)]) (Rt := [.agg, .int .i64]) (S := (fun x w => ref11_Mend K x.1 w)) (ref11_Mend_Eok K) (ref11_Mend_Rok K) rfl ref11_Mend_facts (Orc.cons (by kernel_rfl) (ref11_Mend_s0_se_ok K [(0, 55)] (by kernel_rfl)) (Orc.nil _ _ _)) (fun _ _ => by kernel_rfl) x w y w2 h
noncomputable def ref11_Mend_ce (K : Nat) : CE := funE [(0, .str)] [.agg, .int .i64] (fun x w => ref11_Mend K x.1 w)
theorem ref11_Mend_ok (K : Nat) : (ref11_Mend_ce K).Ok prog 14 := funE_ok (Rt := [.agg, .int .i64]) (S := (fun x w => ref11_Mend K x.1 w)) ref11_Mend_facts fun x w y w2 h => ref11_Mend_calls K x w y w2 h

noncomputable def ref11_over_R (K : Nat) : List (Nat × RE) := [(30, ref11_times_re K)]
theorem ref11_over_Rok (K : Nat) : REnv.Ok prog (tab (ref11_over_R K)) := (REnv.cons (ref11_times_ok K) (REnv.nil _))
noncomputable def ref11_over_l0_b (K : Nat) (rec : Int → Int → Int → Option (Out (Unit) (Int × Unit))) (a0 : Int) (b1 : Int) (v5 : Int) : Option (Out (Unit) (Int × Unit)) :=
  if (decide (v5 < 256)) = true then ((ref11_times K (IntKind.u8.wrap v5) b1).bind fun r_1 =>
  if (r_1.1 == a0) = true then (some (.ret ((IntKind.u8.wrap v5), ()))) else (rec a0 b1 (IntKind.i64.wrap (v5 + 1)))) else (some (.norm ()))
noncomputable def ref11_over_l0 (K : Nat) (n : Nat) : Int → Int → Int → Option (Out (Unit) (Int × Unit)) := iter (fun _ _ _ => none) (ref11_over_l0_b K) n
/-- coffer/cofferref11.over -/
noncomputable def ref11_over (K : Nat) (a0 : Int) (b1 : Int) : Option (Int × Unit) :=
  (ref11_over_l0 K K a0 b1 0).bind fun y_2 =>
  (match y_2 with
  | .norm z_3n => (some (0, ()))
  | .ret z_3r => (some (z_3r.1, ())))
theorem ref11_over_l0_ok (K : Nat) (n : Nat) : StmtQOk prog [(0, .int .u8), (1, .int .u8), (5, .int .i64)] [] [(4, .int .u8)] [(4, 18)] ((fun n x w => ref11_over_l0 K n x.1 x.2.1 x.2.2.1) n) (.block 0 (.loop (cd (bodyOf f46) [1, 0, 1, 0, 0]))) :=
    mk_loopQ (O := tabL []) (root := (bodyOf f46)) (π := [1, 0, 1, 0, 0]) (id := 0) (Li := [(0, .int .u8), (1, .int .u8), (5, .int .i64)]) (Lo := []) (Lr := [(4, .int .u8)]) (S := (fun n x w => ref11_over_l0 K n x.1 x.2.1 x.2.2.1)) (body := cd (bodyOf f46) [1, 0, 1, 0, 0]) (ref11_over_Rok K) (OrcQ.nil _ _ _) (by kernel_rfl) (fun _ _ => by kernel_rfl) (fun _ _ _ => by kernel_rfl) n
noncomputable def ref11_over_l0_se (K : Nat) : SQ := stmtQ [(0, .int .u8), (1, .int .u8), (5, .int .i64)] [] [(4, .int .u8)] [(4, 18)] (fun x w => ref11_over_l0 K K x.1 x.2.1 x.2.2.1)
theorem ref11_over_l0_se_ok (K : Nat) (R : Rg) (h : subRB [(4, 18)] R = true) : (ref11_over_l0_se K).Ok prog R (.block 0 (.loop (cd (bodyOf f46) [1, 0, 1, 0, 0]))) := stmtQ_ok (Li := [(0, .int .u8), (1, .int .u8), (5, .int .i64)]) (Lo := []) (Lr := [(4, .int .u8)]) (S := (fun x w => ref11_over_l0 K K x.1 x.2.1 x.2.2.1)) (ref11_over_l0_ok K K) (subR_of h)
theorem ref11_over_facts : FunFacts prog 46 f46 (bodyOf f46) [(0, .int .u8), (1, .int .u8)] [(0, 18)] := ⟨func46, by kernel_rfl, by kernel_rfl, by kernel_rfl, by kernel_rfl, by kernel_rfl⟩
theorem ref11_over_calls (K : Nat) (x : TT [(0, .int .u8), (1, .int .u8)]) (w : World) (y : TR [.int .u8]) (h : ref11_over K x.1 x.2.1 = some y) : Calls prog 46 (encA [(0, .int .u8), (1, .int .u8)] x).toArray w (fun e w3 => e = .returned (resV (encR [.int .u8] y)) ∧ w3 = w) :=
    mk_funQ (O := tabL [([1, 0, 1], ref11_over_l0_se K)]) (Lp := [(0, .int .u8), (1, .int .u8)]) (Rt := [.int .u8]) (S := (fun x w => ref11_over K x.1 x.2.1)) (ref11_over_Rok K) ref11_over_facts (OrcQ.cons (by kernel_rfl) (ref11_over_l0_se_ok K [(0, 18)] (by kernel_rfl)) (OrcQ.nil _ _ _)) (fun _ _ => by kernel_rfl) x w y h
noncomputable def ref11_over_re (K : Nat) : RE := funR [(0, .int .u8), (1, .int .u8)] [.int .u8] (fun x w => ref11_over K x.1 x.2.1)
theorem ref11_over_ok (K : Nat) : (ref11_over_re K).Ok prog 46 := funR_ok (Rt := [.int .u8]) (S := (fun x w => ref11_over K x.1 x.2.1)) ref11_over_facts fun x w y h => ref11_over_calls K x w y h

noncomputable def ref11_Solve_E (K : Nat) : List (Nat × CE) := []
theorem ref11_Solve_Eok (K : Nat) : Env.Ok prog (tab (ref11_Solve_E K)) := (Env.nil _)
noncomputable def ref11_Solve_R (K : Nat) : List (Nat × RE) := [(46, ref11_over_re K), (30, ref11_times_re K)]
theorem ref11_Solve_Rok (K : Nat) : REnv.Ok prog (tab (ref11_Solve_R K)) := (REnv.cons (ref11_over_ok K) (REnv.cons (ref11_times_ok K) (REnv.nil _)))
noncomputable def ref11_Solve_l0_b (K : Nat) (rec : Sl → Int → Sl → Int → World → Option ((Sl × Unit) × World)) (m0 : Sl) (n4 : Int) (rows5 : Sl) (i6 : Int) (w : World) : Option ((Sl × Unit) × World) :=
  if (decide (i6 < ((m0.len : Nat) : Int))) = true then (bnd (bldS prog 25 0 #[] w) fun s_3 w_4 =>
  (m0.a).bind fun p_5 =>
  if (0 : Int) ≤ i6 ∧ i6 < ((m0.len : Nat) : Int) then ((ldS (p_5.add ((Int.toNat i6) * 1)) w_4).bind fun v_6 =>
  bnd (apd prog 25 25 (.slice s_3.a s_3.len s_3.cap) (.slice v_6.a v_6.len v_6.cap) w_4) fun s_7 w_8 =>
  bnd (bldS prog 68 1 #[(0, (.slice s_7.a s_7.len s_7.cap))] w_8) fun s_9 w_10 =>
  bnd (apd prog 68 68 (.slice rows5.a rows5.len rows5.cap) (.slice s_9.a s_9.len s_9.cap) w_10) fun s_11 w_12 =>
  rec m0 n4 s_11 (IntKind.i64.wrap (i6 + 1)) w_12) else none) else (some ((rows5, ()), w))
noncomputable def ref11_Solve_l0 (K : Nat) (n : Nat) : Sl → Int → Sl → Int → World → Option ((Sl × Unit) × World) := iter (fun _ _ _ _ _ => none) (ref11_Solve_l0_b K) n
noncomputable def ref11_Solve_s3 (K : Nat) (rows5 : Sl) (at9 : Int) (i10 : Int) (w : World) : Option ((Bool × Unit) × World) :=
  if (decide (i10 < ((rows5.len : Nat) : Int))) = true then (some (((decide (at9 < 0)), ()), w)) else (some ((false, ()), w))
noncomputable def ref11_Solve_l2_b (K : Nat) (rec : Int → Sl → Sl → Int → Int → Int → World → Option ((Int × Unit) × World)) (n4 : Int) (rows5 : Sl) (x7 : Sl) (c8 : Int) (at9 : Int) (i10 : Int) (w : World) : Option ((Int × Unit) × World) :=
  bnd (ref11_Solve_s3 K rows5 at9 i10 w) fun y_19 w_20 =>
  if y_19.1 = true then ((rows5.a).bind fun p_21 =>
  if (0 : Int) ≤ i10 ∧ i10 < ((rows5.len : Nat) : Int) then ((ldS (p_21.add ((Int.toNat i10) * 1)) w_20).bind fun v_22 =>
  (v_22.a).bind fun p_23 =>
  if (0 : Int) ≤ c8 ∧ c8 < ((v_22.len : Nat) : Int) then ((ldI .u8 (p_23.add ((Int.toNat c8) * 1)) w_20).bind fun v_24 =>
  if (v_24 != 0) = true then (rec n4 rows5 x7 c8 i10 (IntKind.i64.wrap (i10 + 1)) w_20) else (rec n4 rows5 x7 c8 at9 (IntKind.i64.wrap (i10 + 1)) w_20)) else none) else none) else (some ((at9, ()), w_20))
noncomputable def ref11_Solve_l2 (K : Nat) (n : Nat) : Int → Sl → Sl → Int → Int → Int → World → Option ((Int × Unit) × World) := iter (fun _ _ _ _ _ _ _ => none) (ref11_Solve_l2_b K) n
noncomputable def ref11_Solve_l4_b (K : Nat) (rec : Int → Sl → Sl → Int → Int → Int → World → Option ((Unit) × World)) (n4 : Int) (rows5 : Sl) (x7 : Sl) (c8 : Int) (by11 : Int) (k12 : Int) (w : World) : Option ((Unit) × World) :=
  if (decide (k12 ≤ n4)) = true then ((rows5.a).bind fun p_40 =>
  if (0 : Int) ≤ c8 ∧ c8 < ((rows5.len : Nat) : Int) then ((rows5.a).bind fun p_41 =>
  if (0 : Int) ≤ c8 ∧ c8 < ((rows5.len : Nat) : Int) then ((ldS (p_40.add ((Int.toNat c8) * 1)) w.drew).bind fun v_42 =>
  (ldS (p_41.add ((Int.toNat c8) * 1)) w.drew).bind fun v_43 =>
  (v_43.a).bind fun p_44 =>
  if (0 : Int) ≤ k12 ∧ k12 < ((v_43.len : Nat) : Int) then ((ldI .u8 (p_44.add ((Int.toNat k12) * 1)) w.drew).bind fun v_45 =>
  (ref11_times K v_45 by11).bind fun r_46 =>
  (v_42.a).bind fun p_47 =>
  if (0 : Int) ≤ k12 ∧ k12 < ((v_42.len : Nat) : Int) then ((stC (p_47.add ((Int.toNat k12) * 1)) (.int .u8 r_46.1) w.drew).bind fun w_48 =>
  rec n4 rows5 x7 c8 by11 (IntKind.i64.wrap (k12 + 1)) w_48) else none) else none) else none) else none) else (some ((), w))
noncomputable def ref11_Solve_l4 (K : Nat) (n : Nat) : Int → Sl → Sl → Int → Int → Int → World → Option ((Unit) × World) := iter (fun _ _ _ _ _ _ _ => none) (ref11_Solve_l4_b K) n
noncomputable def ref11_Solve_s6 (K : Nat) (rows5 : Sl) (c8 : Int) (i13 : Int) (w : World) : Option ((Bool × Unit) × World) :=
  if (i13 == c8) = true then (some ((true, ()), w)) else ((rows5.a).bind fun p_51 =>
  if (0 : Int) ≤ i13 ∧ i13 < ((rows5.len : Nat) : Int) then ((ldS (p_51.add ((Int.toNat i13) * 1)) w).bind fun v_52 =>
  (v_52.a).bind fun p_53 =>
  if (0 : Int) ≤ c8 ∧ c8 < ((v_52.len : Nat) : Int) then ((ldI .u8 (p_53.add ((Int.toNat c8) * 1)) w).bind fun v_54 =>
  some (((v_54 == 0), ()), w)) else none) else none)
noncomputable def ref11_Solve_l7_b (K : Nat) (rec : Int → Sl → Sl → Int → Int → Int → Int → World → Option ((Unit) × World)) (n4 : Int) (rows5 : Sl) (x7 : Sl) (c8 : Int) (i13 : Int) (f14 : Int) (k15 : Int) (w : World) : Option ((Unit) × World) :=
  if (decide (k15 ≤ n4)) = true then ((rows5.a).bind fun p_61 =>
  if (0 : Int) ≤ i13 ∧ i13 < ((rows5.len : Nat) : Int) then ((rows5.a).bind fun p_62 =>
  if (0 : Int) ≤ i13 ∧ i13 < ((rows5.len : Nat) : Int) then ((rows5.a).bind fun p_63 =>
  if (0 : Int) ≤ c8 ∧ c8 < ((rows5.len : Nat) : Int) then ((ldS (p_61.add ((Int.toNat i13) * 1)) w.drew).bind fun v_64 =>
  (ldS (p_62.add ((Int.toNat i13) * 1)) w.drew).bind fun v_65 =>
  (v_65.a).bind fun p_66 =>
  if (0 : Int) ≤ k15 ∧ k15 < ((v_65.len : Nat) : Int) then ((ldI .u8 (p_66.add ((Int.toNat k15) * 1)) w.drew).bind fun v_67 =>
  (ldS (p_63.add ((Int.toNat c8) * 1)) w.drew).bind fun v_68 =>
  (v_68.a).bind fun p_69 =>
  if (0 : Int) ≤ k15 ∧ k15 < ((v_68.len : Nat) : Int) then ((ldI .u8 (p_69.add ((Int.toNat k15) * 1)) w.drew).bind fun v_70 =>
  (ref11_times K f14 v_70).bind fun r_71 =>
  (v_64.a).bind fun p_72 =>
  if (0 : Int) ≤ k15 ∧ k15 < ((v_64.len : Nat) : Int) then ((stC (p_72.add ((Int.toNat k15) * 1)) (.int .u8 (bits .xor .u8 v_67 r_71.1)) w.drew).bind fun w_73 =>
  rec n4 rows5 x7 c8 i13 f14 (IntKind.i64.wrap (k15 + 1)) w_73) else none) else none) else none) else none) else none) else none) else (some ((), w))
noncomputable def ref11_Solve_l7 (K : Nat) (n : Nat) : Int → Sl → Sl → Int → Int → Int → Int → World → Option ((Unit) × World) := iter (fun _ _ _ _ _ _ _ _ => none) (ref11_Solve_l7_b K) n
noncomputable def ref11_Solve_l5_b (K : Nat) (rec : Int → Sl → Sl → Int → Int → World → Option ((Unit) × World)) (n4 : Int) (rows5 : Sl) (x7 : Sl) (c8 : Int) (i13 : Int) (w : World) : Option ((Unit) × World) :=
  if (decide (i13 < ((rows5.len : Nat) : Int))) = true then (bnd (ref11_Solve_s6 K rows5 c8 i13 w) fun y_55 w_56 =>
  if y_55.1 = true then (rec n4 rows5 x7 c8 (IntKind.i64.wrap (i13 + 1)) w_56) else ((rows5.a).bind fun p_57 =>
  if (0 : Int) ≤ i13 ∧ i13 < ((rows5.len : Nat) : Int) then ((ldS (p_57.add ((Int.toNat i13) * 1)) w_56).bind fun v_58 =>
  (v_58.a).bind fun p_59 =>
  if (0 : Int) ≤ c8 ∧ c8 < ((v_58.len : Nat) : Int) then ((ldI .u8 (p_59.add ((Int.toNat c8) * 1)) w_56).bind fun v_60 =>
  bnd (ref11_Solve_l7 K K n4 rows5 x7 c8 i13 v_60 0 w_56) fun y_74 w_75 =>
  rec n4 rows5 x7 c8 (IntKind.i64.wrap (i13 + 1)) w_75) else none) else none)) else (some ((), w))
noncomputable def ref11_Solve_l5 (K : Nat) (n : Nat) : Int → Sl → Sl → Int → Int → World → Option ((Unit) × World) := iter (fun _ _ _ _ _ _ => none) (ref11_Solve_l5_b K) n
noncomputable def ref11_Solve_l1_b (K : Nat) (rec : Int → Sl → Sl → Int → World → Option ((Out (Sl × Unit) (Sl × Bool × Unit)) × World)) (n4 : Int) (rows5 : Sl) (x7 : Sl) (c8 : Int) (w : World) : Option ((Out (Sl × Unit) (Sl × Bool × Unit)) × World) :=
  if (decide (c8 < n4)) = true then (bnd (bldS prog 25 1 #[(0, (.int .u8 0))] w) fun s_15 w_16 =>
  bnd (apd prog 25 25 (.slice x7.a x7.len x7.cap) (.slice s_15.a s_15.len s_15.cap) w_16) fun s_17 w_18 =>
  bnd (ref11_Solve_l2 K K n4 rows5 s_17 c8 (-1) c8 w_18) fun y_25 w_26 =>
  if (decide (y_25.1 < 0)) = true then (some (.ret (⟨none, 0, 0⟩, false, ()), w_26)) else ((rows5.a).bind fun p_27 =>
  if (0 : Int) ≤ y_25.1 ∧ y_25.1 < ((rows5.len : Nat) : Int) then ((rows5.a).bind fun p_28 =>
  if (0 : Int) ≤ c8 ∧ c8 < ((rows5.len : Nat) : Int) then ((ldS (p_27.add ((Int.toNat y_25.1) * 1)) w_26.drew).bind fun v_29 =>
  (ldS (p_28.add ((Int.toNat c8) * 1)) w_26.drew).bind fun v_30 =>
  (rows5.a).bind fun p_31 =>
  if (0 : Int) ≤ c8 ∧ c8 < ((rows5.len : Nat) : Int) then ((stC (p_31.add ((Int.toNat c8) * 1)) (.slice v_29.a v_29.len v_29.cap) w_26.drew).bind fun w_32 =>
  (rows5.a).bind fun p_33 =>
  if (0 : Int) ≤ y_25.1 ∧ y_25.1 < ((rows5.len : Nat) : Int) then ((stC (p_33.add ((Int.toNat y_25.1) * 1)) (.slice v_30.a v_30.len v_30.cap) w_32).bind fun w_34 =>
  (rows5.a).bind fun p_35 =>
  if (0 : Int) ≤ c8 ∧ c8 < ((rows5.len : Nat) : Int) then ((ldS (p_35.add ((Int.toNat c8) * 1)) w_34).bind fun v_36 =>
  (v_36.a).bind fun p_37 =>
  if (0 : Int) ≤ c8 ∧ c8 < ((v_36.len : Nat) : Int) then ((ldI .u8 (p_37.add ((Int.toNat c8) * 1)) w_34).bind fun v_38 =>
  (ref11_over K 1 v_38).bind fun r_39 =>
  bnd (ref11_Solve_l4 K K n4 rows5 s_17 c8 r_39.1 0 w_34) fun y_49 w_50 =>
  bnd (ref11_Solve_l5 K K n4 rows5 s_17 c8 0 w_50) fun y_76 w_77 =>
  rec n4 rows5 s_17 (IntKind.i64.wrap (c8 + 1)) w_77) else none) else none) else none) else none) else none) else none)) else (some (.norm (x7, ()), w))
noncomputable def ref11_Solve_l1 (K : Nat) (n : Nat) : Int → Sl → Sl → Int → World → Option ((Out (Sl × Unit) (Sl × Bool × Unit)) × World) := iter (fun _ _ _ _ _ => none) (ref11_Solve_l1_b K) n
noncomputable def ref11_Solve_l8_b (K : Nat) (rec : Int → Sl → Sl → Int → World → Option ((Out (Unit) (Sl × Bool × Unit)) × World)) (n4 : Int) (rows5 : Sl) (x7 : Sl) (i16 : Int) (w : World) : Option ((Out (Unit) (Sl × Bool × Unit)) × World) :=
  if (decide (i16 < ((rows5.len : Nat) : Int))) = true then ((rows5.a).bind fun p_81 =>
  if (0 : Int) ≤ i16 ∧ i16 < ((rows5.len : Nat) : Int) then ((ldS (p_81.add ((Int.toNat i16) * 1)) w).bind fun v_82 =>
  (v_82.a).bind fun p_83 =>
  if (0 : Int) ≤ n4 ∧ n4 < ((v_82.len : Nat) : Int) then ((ldI .u8 (p_83.add ((Int.toNat n4) * 1)) w).bind fun v_84 =>
  if (v_84 != 0) = true then (some (.ret (⟨none, 0, 0⟩, false, ()), w)) else (rec n4 rows5 x7 (IntKind.i64.wrap (i16 + 1)) w)) else none) else none) else (some (.norm (), w))
noncomputable def ref11_Solve_l8 (K : Nat) (n : Nat) : Int → Sl → Sl → Int → World → Option ((Out (Unit) (Sl × Bool × Unit)) × World) := iter (fun _ _ _ _ _ => none) (ref11_Solve_l8_b K) n
noncomputable def ref11_Solve_l9_b (K : Nat) (rec : Int → Sl → Sl → Int → World → Option ((Unit) × World)) (n4 : Int) (rows5 : Sl) (x7 : Sl) (c17 : Int) (w : World) : Option ((Unit) × World) :=
  if (decide (c17 < n4)) = true then ((rows5.a).bind fun p_88 =>
  if (0 : Int) ≤ c17 ∧ c17 < ((rows5.len : Nat) : Int) then ((ldS (p_88.add ((Int.toNat c17) * 1)) w).bind fun v_89 =>
  (v_89.a).bind fun p_90 =>
  if (0 : Int) ≤ n4 ∧ n4 < ((v_89.len : Nat) : Int) then ((ldI .u8 (p_90.add ((Int.toNat n4) * 1)) w).bind fun v_91 =>
  (x7.a).bind fun p_92 =>
  if (0 : Int) ≤ c17 ∧ c17 < ((x7.len : Nat) : Int) then ((stC (p_92.add ((Int.toNat c17) * 1)) (.int .u8 v_91) w).bind fun w_93 =>
  rec n4 rows5 x7 (IntKind.i64.wrap (c17 + 1)) w_93) else none) else none) else none) else (some ((), w))
noncomputable def ref11_Solve_l9 (K : Nat) (n : Nat) : Int → Sl → Sl → Int → World → Option ((Unit) × World) := iter (fun _ _ _ _ _ => none) (ref11_Solve_l9_b K) n
/-- coffer/cofferref11.Solve -/
noncomputable def ref11_Solve (K : Nat) (m0 : Sl) (w : World) : Option ((Sl × Bool × Unit) × World) :=
  if (((m0.len : Nat) : Int) == 0) = true then (some ((⟨none, 0, 0⟩, true, ()), w)) else ((m0.a).bind fun p_1 =>
  if (0 : Int) ≤ 0 ∧ 0 < ((m0.len : Nat) : Int) then ((ldS (p_1.add (0 * 1)) w).bind fun v_2 =>
  bnd (ref11_Solve_l0 K K m0 (IntKind.i64.wrap (((v_2.len : Nat) : Int) - 1)) ⟨none, 0, 0⟩ 0 w) fun y_13 w_14 =>
  bnd (ref11_Solve_l1 K K (IntKind.i64.wrap (((v_2.len : Nat) : Int) - 1)) y_13.1 ⟨none, 0, 0⟩ 0 w_14) fun y_78 w_79 =>
  (match y_78 with
  | .norm z_80n => (bnd (ref11_Solve_l8 K K (IntKind.i64.wrap (((v_2.len : Nat) : Int) - 1)) y_13.1 z_80n.1 (IntKind.i64.wrap (((v_2.len : Nat) : Int) - 1)) w_79) fun y_85 w_86 =>
  (match y_85 with
  | .norm z_87n => (bnd (ref11_Solve_l9 K K (IntKind.i64.wrap (((v_2.len : Nat) : Int) - 1)) y_13.1 z_80n.1 0 w_86) fun y_94 w_95 =>
  some ((z_80n.1, true, ()), w_95))
  | .ret z_87r => (some ((z_87r.1, z_87r.2.1, ()), w_86))))
  | .ret z_80r => (some ((z_80r.1, z_80r.2.1, ()), w_79)))) else none)
theorem ref11_Solve_l0_ok (K : Nat) (n : Nat) : StmtNOk prog [(0, .sl), (4, .int .i64), (5, .sl), (6, .int .i64)] [(5, .sl)] [(5, 7), (26, 41)] ((fun n x w => ref11_Solve_l0 K n x.1 x.2.1 x.2.2.1 x.2.2.2.1 w) n) (.block 0 (.loop (cd (bodyOf f37) [1, 1, 1, 1, 0, 1, 0, 0]))) :=
    mk_loopN (O := tabL []) (root := (bodyOf f37)) (π := [1, 1, 1, 1, 0, 1, 0, 0]) (id := 0) (Li := [(0, .sl), (4, .int .i64), (5, .sl), (6, .int .i64)]) (Lo := [(5, .sl)]) (S := (fun n x w => ref11_Solve_l0 K n x.1 x.2.1 x.2.2.1 x.2.2.2.1 w)) (body := cd (bodyOf f37) [1, 1, 1, 1, 0, 1, 0, 0]) (ref11_Solve_Eok K) (ref11_Solve_Rok K) rfl (Orc.nil _ _ _) (by kernel_rfl) (fun _ _ => by kernel_rfl) (fun _ _ _ => by kernel_rfl) n
noncomputable def ref11_Solve_l0_se (K : Nat) : SE := stmtN [(0, .sl), (4, .int .i64), (5, .sl), (6, .int .i64)] [(5, .sl)] [(5, 7), (26, 41)] (fun x w => ref11_Solve_l0 K K x.1 x.2.1 x.2.2.1 x.2.2.2.1 w)
theorem ref11_Solve_l0_se_ok (K : Nat) (R : Rg) (h : subRB [(5, 7), (26, 41)] R = true) : (ref11_Solve_l0_se K).Ok prog R (.block 0 (.loop (cd (bodyOf f37) [1, 1, 1, 1, 0, 1, 0, 0]))) := stmtN_ok (Li := [(0, .sl), (4, .int .i64), (5, .sl), (6, .int .i64)]) (Lo := [(5, .sl)]) (S := (fun x w => ref11_Solve_l0 K K x.1 x.2.1 x.2.2.1 x.2.2.2.1 w)) (ref11_Solve_l0_ok K K) (subR_of h)
theorem ref11_Solve_s3_ok (K : Nat) : StmtNOk prog [(5, .sl), (9, .int .i64), (10, .int .i64)] [(57, .bool)] [(50, 58)] (fun x w => ref11_Solve_s3 K x.1 x.2.1 x.2.2.1 w) (cd (bodyOf f37) [1, 1, 1, 1, 1, 1, 0, 1, 0, 0, 1, 0, 0, 1, 1, 0, 1, 0, 0, 0, 0]) :=
    mk_stmtN (O := tabL []) (root := (bodyOf f37)) (π := [1, 1, 1, 1, 1, 1, 0, 1, 0, 0, 1, 0, 0, 1, 1, 0, 1, 0, 0, 0, 0]) (Li := [(5, .sl), (9, .int .i64), (10, .int .i64)]) (Lo := [(57, .bool)]) (S := (fun x w => ref11_Solve_s3 K x.1 x.2.1 x.2.2.1 w)) (ref11_Solve_Eok K) (ref11_Solve_Rok K) rfl (Orc.nil _ _ _) (by kernel_rfl) (fun _ _ => by kernel_rfl)
noncomputable def ref11_Solve_s3_se (K : Nat) : SE := stmtN [(5, .sl), (9, .int .i64), (10, .int .i64)] [(57, .bool)] [(50, 58)] (fun x w => ref11_Solve_s3 K x.1 x.2.1 x.2.2.1 w)
theorem ref11_Solve_s3_se_ok (K : Nat) (R : Rg) (h : subRB [(50, 58)] R = true) : (ref11_Solve_s3_se K).Ok prog R (cd (bodyOf f37) [1, 1, 1, 1, 1, 1, 0, 1, 0, 0, 1, 0, 0, 1, 1, 0, 1, 0, 0, 0, 0]) := stmtN_ok (Li := [(5, .sl), (9, .int .i64), (10, .int .i64)]) (Lo := [(57, .bool)]) (S := (fun x w => ref11_Solve_s3 K x.1 x.2.1 x.2.2.1 w)) (ref11_Solve_s3_ok K) (subR_of h)
theorem ref11_Solve_l2_ok (K : Nat) (n : Nat) : StmtNOk prog [(4, .int .i64), (5, .sl), (7, .sl), (8, .int .i64), (9, .int .i64), (10, .int .i64)] [(9, .int .i64)] [(9, 11), (50, 69)] ((fun n x w => ref11_Solve_l2 K n x.1 x.2.1 x.2.2.1 x.2.2.2.1 x.2.2.2.2.1 x.2.2.2.2.2.1 w) n) (.block 4 (.loop (cd (bodyOf f37) [1, 1, 1, 1, 1, 1, 0, 1, 0, 0, 1, 0, 0, 1, 1, 0, 1, 0, 0]))) :=
    mk_loopN (O := tabL [([1, 1, 1, 1, 1, 1, 0, 1, 0, 0, 1, 0, 0, 1, 1, 0, 1, 0, 0, 0, 0], ref11_Solve_s3_se K)]) (root := (bodyOf f37)) (π := [1, 1, 1, 1, 1, 1, 0, 1, 0, 0, 1, 0, 0, 1, 1, 0, 1, 0, 0]) (id := 4) (Li := [(4, .int .i64), (5, .sl), (7, .sl), (8, .int .i64), (9, .int .i64), (10, .int .i64)]) (Lo := [(9, .int .i64)]) (S := (fun n x w => ref11_Solve_l2 K n x.1 x.2.1 x.2.2.1 x.2.2.2.1 x.2.2.2.2.1 x.2.2.2.2.2.1 w)) (body := cd (bodyOf f37) [1, 1, 1, 1, 1, 1, 0, 1, 0, 0, 1, 0, 0, 1, 1, 0, 1, 0, 0]) (ref11_Solve_Eok K) (ref11_Solve_Rok K) rfl (Orc.cons (by kernel_rfl) (ref11_Solve_s3_se_ok K [(9, 11), (50, 69)] (by kernel_rfl)) (Orc.nil _ _ _)) (by kernel_rfl) (fun _ _ => by kernel_rfl) (fun _ _ _ => by kernel_rfl) n
noncomputable def ref11_Solve_l2_se (K : Nat) : SE := stmtN [(4, .int .i64), (5, .sl), (7, .sl), (8, .int .i64), (9, .int .i64), (10, .int .i64)] [(9, .int .i64)] [(9, 11), (50, 69)] (fun x w => ref11_Solve_l2 K K x.1 x.2.1 x.2.2.1 x.2.2.2.1 x.2.2.2.2.1 x.2.2.2.2.2.1 w)
theorem ref11_Solve_l2_se_ok (K : Nat) (R : Rg) (h : subRB [(9, 11), (50, 69)] R = true) : (ref11_Solve_l2_se K).Ok prog R (.block 4 (.loop (cd (bodyOf f37) [1, 1, 1, 1, 1, 1, 0, 1, 0, 0, 1, 0, 0, 1, 1, 0, 1, 0, 0]))) := stmtN_ok (Li := [(4, .int .i64), (5, .sl), (7, .sl), (8, .int .i64), (9, .int .i64), (10, .int .i64)]) (Lo := [(9, .int .i64)]) (S := (fun x w => ref11_Solve_l2 K K x.1 x.2.1 x.2.2.1 x.2.2.2.1 x.2.2.2.2.1 x.2.2.2.2.2.1 w)) (ref11_Solve_l2_ok K K) (subR_of h)
theorem ref11_Solve_l4_ok (K : Nat) (n : Nat) : StmtNOk prog [(4, .int .i64), (5, .sl), (7, .sl), (8, .int .i64), (11, .int .u8), (12, .int .i64)] [] [(12, 13), (93, 113)] ((fun n x w => ref11_Solve_l4 K n x.1 x.2.1 x.2.2.1 x.2.2.2.1 x.2.2.2.2.1 x.2.2.2.2.2.1 w) n) (.block 6 (.loop (cd (bodyOf f37) [1, 1, 1, 1, 1, 1, 0, 1, 0, 0, 1, 0, 0, 1, 1, 1, 1, 1, 1, 0, 1, 0, 0]))) :=
    mk_loopN (O := tabL []) (root := (bodyOf f37)) (π := [1, 1, 1, 1, 1, 1, 0, 1, 0, 0, 1, 0, 0, 1, 1, 1, 1, 1, 1, 0, 1, 0, 0]) (id := 6) (Li := [(4, .int .i64), (5, .sl), (7, .sl), (8, .int .i64), (11, .int .u8), (12, .int .i64)]) (Lo := []) (S := (fun n x w => ref11_Solve_l4 K n x.1 x.2.1 x.2.2.1 x.2.2.2.1 x.2.2.2.2.1 x.2.2.2.2.2.1 w)) (body := cd (bodyOf f37) [1, 1, 1, 1, 1, 1, 0, 1, 0, 0, 1, 0, 0, 1, 1, 1, 1, 1, 1, 0, 1, 0, 0]) (ref11_Solve_Eok K) (ref11_Solve_Rok K) rfl (Orc.nil _ _ _) (by kernel_rfl) (fun _ _ => by kernel_rfl) (fun _ _ _ => by kernel_rfl) n
noncomputable def ref11_Solve_l4_se (K : Nat) : SE := stmtN [(4, .int .i64), (5, .sl), (7, .sl), (8, .int .i64), (11, .int .u8), (12, .int .i64)] [] [(12, 13), (93, 113)] (fun x w => ref11_Solve_l4 K K x.1 x.2.1 x.2.2.1 x.2.2.2.1 x.2.2.2.2.1 x.2.2.2.2.2.1 w)
theorem ref11_Solve_l4_se_ok (K : Nat) (R : Rg) (h : subRB [(12, 13), (93, 113)] R = true) : (ref11_Solve_l4_se K).Ok prog R (.block 6 (.loop (cd (bodyOf f37) [1, 1, 1, 1, 1, 1, 0, 1, 0, 0, 1, 0, 0, 1, 1, 1, 1, 1, 1, 0, 1, 0, 0]))) := stmtN_ok (Li := [(4, .int .i64), (5, .sl), (7, .sl), (8, .int .i64), (11, .int .u8), (12, .int .i64)]) (Lo := []) (S := (fun x w => ref11_Solve_l4 K K x.1 x.2.1 x.2.2.1 x.2.2.2.1 x.2.2.2.2.1 x.2.2.2.2.2.1 w)) (ref11_Solve_l4_ok K K) (subR_of h)
theorem ref11_Solve_s6_ok (K : Nat) : StmtNOk prog [(5, .sl), (8, .int .i64), (13, .int .i64)] [(131, .bool)] [(119, 132)] (fun x w => ref11_Solve_s6 K x.1 x.2.1 x.2.2.1 w) (cd (bodyOf f37) [1, 1, 1, 1, 1, 1, 0, 1, 0, 0, 1, 0, 0, 1, 1, 1, 1, 1, 1, 1, 1, 0, 0, 1, 0, 0, 0, 0]) :=
    mk_stmtN (O := tabL []) (root := (bodyOf f37)) (π := [1, 1, 1, 1, 1, 1, 0, 1, 0, 0, 1, 0, 0, 1, 1, 1, 1, 1, 1, 1, 1, 0, 0, 1, 0, 0, 0, 0]) (Li := [(5, .sl), (8, .int .i64), (13, .int .i64)]) (Lo := [(131, .bool)]) (S := (fun x w => ref11_Solve_s6 K x.1 x.2.1 x.2.2.1 w)) (ref11_Solve_Eok K) (ref11_Solve_Rok K) rfl (Orc.nil _ _ _) (by kernel_rfl) (fun _ _ => by kernel_rfl)
noncomputable def ref11_Solve_s6_se (K : Nat) : SE := stmtN [(5, .sl), (8, .int .i64), (13, .int .i64)] [(131, .bool)] [(119, 132)] (fun x w => ref11_Solve_s6 K x.1 x.2.1 x.2.2.1 w)
theorem ref11_Solve_s6_se_ok (K : Nat) (R : Rg) (h : subRB [(119, 132)] R = true) : (ref11_Solve_s6_se K).Ok prog R (cd (bodyOf f37) [1, 1, 1, 1, 1, 1, 0, 1, 0, 0, 1, 0, 0, 1, 1, 1, 1, 1, 1, 1, 1, 0, 0, 1, 0, 0, 0, 0]) := stmtN_ok (Li := [(5, .sl), (8, .int .i64), (13, .int .i64)]) (Lo := [(131, .bool)]) (S := (fun x w => ref11_Solve_s6 K x.1 x.2.1 x.2.2.1 w)) (ref11_Solve_s6_ok K) (subR_of h)
theorem ref11_Solve_l7_ok (K : Nat) (n : Nat) : StmtNOk prog [(4, .int .i64), (5, .sl), (7, .sl), (8, .int .i64), (13, .int .i64), (14, .int .u8), (15, .int .i64)] [] [(15, 16), (139, 167)] ((fun n x w => ref11_Solve_l7 K n x.1 x.2.1 x.2.2.1 x.2.2.2.1 x.2.2.2.2.1 x.2.2.2.2.2.1 x.2.2.2.2.2.2.1 w) n) (.block 10 (.loop (cd (bodyOf f37) [1, 1, 1, 1, 1, 1, 0, 1, 0, 0, 1, 0, 0, 1, 1, 1, 1, 1, 1, 1, 1, 0, 0, 1, 0, 0, 1, 1, 1, 0, 0]))) :=
    mk_loopN (O := tabL []) (root := (bodyOf f37)) (π := [1, 1, 1, 1, 1, 1, 0, 1, 0, 0, 1, 0, 0, 1, 1, 1, 1, 1, 1, 1, 1, 0, 0, 1, 0, 0, 1, 1, 1, 0, 0]) (id := 10) (Li := [(4, .int .i64), (5, .sl), (7, .sl), (8, .int .i64), (13, .int .i64), (14, .int .u8), (15, .int .i64)]) (Lo := []) (S := (fun n x w => ref11_Solve_l7 K n x.1 x.2.1 x.2.2.1 x.2.2.2.1 x.2.2.2.2.1 x.2.2.2.2.2.1 x.2.2.2.2.2.2.1 w)) (body := cd (bodyOf f37) [1, 1, 1, 1, 1, 1, 0, 1, 0, 0, 1, 0, 0, 1, 1, 1, 1, 1, 1, 1, 1, 0, 0, 1, 0, 0, 1, 1, 1, 0, 0]) (ref11_Solve_Eok K) (ref11_Solve_Rok K) rfl (Orc.nil _ _ _) (by kernel_rfl) (fun _ _ => by kernel_rfl) (fun _ _ _ => by kernel_rfl) n
noncomputable def ref11_Solve_l7_se (K : Nat) : SE := stmtN [(4, .int .i64), (5, .sl), (7, .sl), (8, .int .i64), (13, .int .i64), (14, .int .u8), (15, .int .i64)] [] [(15, 16), (139, 167)] (fun x w => ref11_Solve_l7 K K x.1 x.2.1 x.2.2.1 x.2.2.2.1 x.2.2.2.2.1 x.2.2.2.2.2.1 x.2.2.2.2.2.2.1 w)
theorem ref11_Solve_l7_se_ok (K : Nat) (R : Rg) (h : subRB [(15, 16), (139, 167)] R = true) : (ref11_Solve_l7_se K).Ok prog R (.block 10 (.loop (cd (bodyOf f37) [1, 1, 1, 1, 1, 1, 0, 1, 0, 0, 1, 0, 0, 1, 1, 1, 1, 1, 1, 1, 1, 0, 0, 1, 0, 0, 1, 1, 1, 0, 0]))) := stmtN_ok (Li := [(4, .int .i64), (5, .sl), (7, .sl), (8, .int .i64), (13, .int .i64), (14, .int .u8), (15, .int .i64)]) (Lo := []) (S := (fun x w => ref11_Solve_l7 K K x.1 x.2.1 x.2.2.1 x.2.2.2.1 x.2.2.2.2.1 x.2.2.2.2.2.1 x.2.2.2.2.2.2.1 w)) (ref11_Solve_l7_ok K K) (subR_of h)
theorem ref11_Solve_l5_ok (K : Nat) (n : Nat) : StmtNOk prog [(4, .int .i64), (5, .sl), (7, .sl), (8, .int .i64), (13, .int .i64)] [] [(13, 16), (113, 167)] ((fun n x w => ref11_Solve_l5 K n x.1 x.2.1 x.2.2.1 x.2.2.2.1 x.2.2.2.2.1 w) n) (.block 8 (.loop (cd (bodyOf f37) [1, 1, 1, 1, 1, 1, 0, 1, 0, 0, 1, 0, 0, 1, 1, 1, 1, 1, 1, 1, 1, 0, 0]))) :=
    mk_loopN (O := tabL [([1, 1, 1, 1, 1, 1, 0, 1, 0, 0, 1, 0, 0, 1, 1, 1, 1, 1, 1, 1, 1, 0, 0, 1, 0, 0, 0, 0], ref11_Solve_s6_se K), ([1, 1, 1, 1, 1, 1, 0, 1, 0, 0, 1, 0, 0, 1, 1, 1, 1, 1, 1, 1, 1, 0, 0, 1, 0, 0, 1, 1, 1], ref11_Solve_l7_se K)]) (root := (bodyOf f37)) (π := [1, 1, 1, 1, 1, 1, 0, 1, 0, 0, 1, 0, 0, 1, 1, 1, 1, 1, 1, 1, 1, 0, 0]) (id := 8) (Li := [(4, .int .i64), (5, .sl), (7, .sl), (8, .int .i64), (13, .int .i64)]) (Lo := []) (S := (fun n x w => ref11_Solve_l5 K n x.1 x.2.1 x.2.2.1 x.2.2.2.1 x.2.2.2.2.1 w)) (body := cd (bodyOf f37) [1, 1, 1, 1, 1, 1, 0, 1, 0, 0, 1, 0, 0, 1, 1, 1, 1, 1, 1, 1, 1, 0, 0]) (ref11_Solve_Eok K) (ref11_Solve_Rok K) rfl (Orc.cons (by kernel_rfl) (ref11_Solve_s6_se_ok K [(13, 16), (113, 167)] (by kernel_rfl)) (Orc.cons (by kernel_rfl) (ref11_Solve_l7_se_ok K [(13, 16), (113, 167)] (by kernel_rfl)) (Orc.nil _ _ _))) (by kernel_rfl) (fun _ _ => by kernel_rfl) (fun _ _ _ => by kernel_rfl) n
noncomputable def ref11_Solve_l5_se (K : Nat) : SE := stmtN [(4, .int .i64), (5, .sl), (7, .sl), (8, .int .i64), (13, .int .i64)] [] [(13, 16), (113, 167)] (fun x w => ref11_Solve_l5 K K x.1 x.2.1 x.2.2.1 x.2.2.2.1 x.2.2.2.2.1 w)
theorem ref11_Solve_l5_se_ok (K : Nat) (R : Rg) (h : subRB [(13, 16), (113, 167)] R = true) : (ref11_Solve_l5_se K).Ok prog R (.block 8 (.loop (cd (bodyOf f37) [1, 1, 1, 1, 1, 1, 0, 1, 0, 0, 1, 0, 0, 1, 1, 1, 1, 1, 1, 1, 1, 0, 0]))) := stmtN_ok (Li := [(4, .int .i64), (5, .sl), (7, .sl), (8, .int .i64), (13, .int .i64)]) (Lo := []) (S := (fun x w => ref11_Solve_l5 K K x.1 x.2.1 x.2.2.1 x.2.2.2.1 x.2.2.2.2.1 w)) (ref11_Solve_l5_ok K K) (subR_of h)
theorem ref11_Solve_l1_ok (K : Nat) (n : Nat) : StmtOk prog [(4, .int .i64), (5, .sl), (7, .sl), (8, .int .i64)] [(7, .sl)] [(2, .sl), (3, .bool)] [(2, 4), (7, 16), (41, 167)] ((fun n x w => ref11_Solve_l1 K n x.1 x.2.1 x.2.2.1 x.2.2.2.1 w) n) (.block 2 (.loop (cd (bodyOf f37) [1, 1, 1, 1, 1, 1, 0, 1, 0, 0]))) :=
    mk_loop (O := tabL [([1, 1, 1, 1, 1, 1, 0, 1, 0, 0, 1, 0, 0, 1, 1, 0, 1], ref11_Solve_l2_se K), ([1, 1, 1, 1, 1, 1, 0, 1, 0, 0, 1, 0, 0, 1, 1, 0, 1, 0, 0, 0, 0], ref11_Solve_s3_se K), ([1, 1, 1, 1, 1, 1, 0, 1, 0, 0, 1, 0, 0, 1, 1, 1, 1, 1, 1, 0, 1], ref11_Solve_l4_se K), ([1, 1, 1, 1, 1, 1, 0, 1, 0, 0, 1, 0, 0, 1, 1, 1, 1, 1, 1, 1, 1], ref11_Solve_l5_se K), ([1, 1, 1, 1, 1, 1, 0, 1, 0, 0, 1, 0, 0, 1, 1, 1, 1, 1, 1, 1, 1, 0, 0, 1, 0, 0, 0, 0], ref11_Solve_s6_se K), ([1, 1, 1, 1, 1, 1, 0, 1, 0, 0, 1, 0, 0, 1, 1, 1, 1, 1, 1, 1, 1, 0, 0, 1, 0, 0, 1, 1, 1], ref11_Solve_l7_se K)]) (root := (bodyOf f37)) (π := [1, 1, 1, 1, 1, 1, 0, 1, 0, 0]) (id := 2) (Li := [(4, .int .i64), (5, .sl), (7, .sl), (8, .int .i64)]) (Lo := [(7, .sl)]) (Lr := [(2, .sl), (3, .bool)]) (S := (fun n x w => ref11_Solve_l1 K n x.1 x.2.1 x.2.2.1 x.2.2.2.1 w)) (body := cd (bodyOf f37) [1, 1, 1, 1, 1, 1, 0, 1, 0, 0]) (ref11_Solve_Eok K) (ref11_Solve_Rok K) rfl (Orc.cons (by kernel_rfl) (ref11_Solve_l2_se_ok K [(2, 4), (7, 16), (41, 167)] (by kernel_rfl)) (Orc.cons (by kernel_rfl) (ref11_Solve_s3_se_ok K [(2, 4), (7, 16), (41, 167)] (by kernel_rfl)) (Orc.cons (by kernel_rfl) (ref11_Solve_l4_se_ok K [(2, 4), (7, 16), (41, 167)] (by kernel_rfl)) (Orc.cons (by kernel_rfl) (ref11_Solve_l5_se_ok K [(2, 4), (7, 16), (41, 167)] (by kernel_rfl)) (Orc.cons (by kernel_rfl) (ref11_Solve_s6_se_ok K [(2, 4), (7, 16), (41, 167)] (by kernel_rfl)) (Orc.cons (by kernel_rfl) (ref11_Solve_l7_se_ok K [(2, 4), (7, 16), (41, 167)] (by kernel_rfl)) (Orc.nil _ _ _))))))) (by kernel_rfl) (fun _ _ => by kernel_rfl) (fun _ _ _ => by kernel_rfl) n
noncomputable def ref11_Solve_l1_se (K : Nat) : SE := stmt [(4, .int .i64), (5, .sl), (7, .sl), (8, .int .i64)] [(7, .sl)] [(2, .sl), (3, .bool)] [(2, 4), (7, 16), (41, 167)] (fun x w => ref11_Solve_l1 K K x.1 x.2.1 x.2.2.1 x.2.2.2.1 w)
theorem ref11_Solve_l1_se_ok (K : Nat) (R : Rg) (h : subRB [(2, 4), (7, 16), (41, 167)] R = true) : (ref11_Solve_l1_se K).Ok prog R (.block 2 (.loop (cd (bodyOf f37) [1, 1, 1, 1, 1, 1, 0, 1, 0, 0]))) := stmt_ok (Li := [(4, .int .i64), (5, .sl), (7, .sl), (8, .int .i64)]) (Lo := [(7, .sl)]) (Lr := [(2, .sl), (3, .bool)]) (S := (fun x w => ref11_Solve_l1 K K x.1 x.2.1 x.2.2.1 x.2.2.2.1 w)) (ref11_Solve_l1_ok K K) (subR_of h)
theorem ref11_Solve_l8_ok (K : Nat) (n : Nat) : StmtOk prog [(4, .int .i64), (5, .sl), (7, .sl), (16, .int .i64)] [] [(2, .sl), (3, .bool)] [(2, 4), (16, 17), (168, 182)] ((fun n x w => ref11_Solve_l8 K n x.1 x.2.1 x.2.2.1 x.2.2.2.1 w) n) (.block 12 (.loop (cd (bodyOf f37) [1, 1, 1, 1, 1, 1, 1, 0, 1, 0, 0]))) :=
    mk_loop (O := tabL []) (root := (bodyOf f37)) (π := [1, 1, 1, 1, 1, 1, 1, 0, 1, 0, 0]) (id := 12) (Li := [(4, .int .i64), (5, .sl), (7, .sl), (16, .int .i64)]) (Lo := []) (Lr := [(2, .sl), (3, .bool)]) (S := (fun n x w => ref11_Solve_l8 K n x.1 x.2.1 x.2.2.1 x.2.2.2.1 w)) (body := cd (bodyOf f37) [1, 1, 1, 1, 1, 1, 1, 0, 1, 0, 0]) (ref11_Solve_Eok K) (ref11_Solve_Rok K) rfl (Orc.nil _ _ _) (by kernel_rfl) (fun _ _ => by kernel_rfl) (fun _ _ _ => by kernel_rfl) n
noncomputable def ref11_Solve_l8_se (K : Nat) : SE := stmt [(4, .int .i64), (5, .sl), (7, .sl), (16, .int .i64)] [] [(2, .sl), (3, .bool)] [(2, 4), (16, 17), (168, 182)] (fun x w => ref11_Solve_l8 K K x.1 x.2.1 x.2.2.1 x.2.2.2.1 w)
theorem ref11_Solve_l8_se_ok (K : Nat) (R : Rg) (h : subRB [(2, 4), (16, 17), (168, 182)] R = true) : (ref11_Solve_l8_se K).Ok prog R (.block 12 (.loop (cd (bodyOf f37) [1, 1, 1, 1, 1, 1, 1, 0, 1, 0, 0]))) := stmt_ok (Li := [(4, .int .i64), (5, .sl), (7, .sl), (16, .int .i64)]) (Lo := []) (Lr := [(2, .sl), (3, .bool)]) (S := (fun x w => ref11_Solve_l8 K K x.1 x.2.1 x.2.2.1 x.2.2.2.1 w)) (ref11_Solve_l8_ok K K) (subR_of h)
theorem ref11_Solve_l9_ok (K : Nat) (n : Nat) : StmtNOk prog [(4, .int .i64), (5, .sl), (7, .sl), (17, .int .i64)] [] [(17, 18), (182, 197)] ((fun n x w => ref11_Solve_l9 K n x.1 x.2.1 x.2.2.1 x.2.2.2.1 w) n) (.block 14 (.loop (cd (bodyOf f37) [1, 1, 1, 1, 1, 1, 1, 1, 0, 1, 0, 0]))) :=
    mk_loopN (O := tabL []) (root := (bodyOf f37)) (π := [1, 1, 1, 1, 1, 1, 1, 1, 0, 1, 0, 0]) (id := 14) (Li := [(4, .int .i64), (5, .sl), (7, .sl), (17, .int .i64)]) (Lo := []) (S := (fun n x w => ref11_Solve_l9 K n x.1 x.2.1 x.2.2.1 x.2.2.2.1 w)) (body := cd (bodyOf f37) [1, 1, 1, 1, 1, 1, 1, 1, 0, 1, 0, 0]) (ref11_Solve_Eok K) (ref11_Solve_Rok K) rfl (Orc.nil _ _ _) (by kernel_rfl) (fun _ _ => by kernel_rfl) (fun _ _ _ => by kernel_rfl) n
noncomputable def ref11_Solve_l9_se (K : Nat) : SE := stmtN [(4, .int .i64), (5, .sl), (7, .sl), (17, .int .i64)] [] [(17, 18), (182, 197)] (fun x w => ref11_Solve_l9 K K x.1 x.2.1 x.2.2.1 x.2.2.2.1 w)
theorem ref11_Solve_l9_se_ok (K : Nat) (R : Rg) (h : subRB [(17, 18), (182, 197)] R = true) : (ref11_Solve_l9_se K).Ok prog R (.block 14 (.loop (cd (bodyOf f37) [1, 1, 1, 1, 1, 1, 1, 1, 0, 1, 0, 0]))) := stmtN_ok (Li := [(4, .int .i64), (5, .sl), (7, .sl), (17, .int .i64)]) (Lo := []) (S := (fun x w => ref11_Solve_l9 K K x.1 x.2.1 x.2.2.1 x.2.2.2.1 w)) (ref11_Solve_l9_ok K K) (subR_of h)
theorem ref11_Solve_facts : FunFacts prog 37 f37 (bodyOf f37) [(0, .sl)] [(0, 198)] := ⟨func37, by kernel_rfl, by kernel_rfl, by kernel_rfl, by kernel_rfl, by kernel_rfl⟩
theorem ref11_Solve_calls (K : Nat) (x : TT [(0, .sl)]) (w : World) (y : TR [.sl, .bool]) (w2 : World) (h : ref11_Solve K x.1 w = some (y, w2)) : Calls prog 37 (encA [(0, .sl)] x).toArray w (fun e w3 => e = .returned (resV (encR [.sl, .bool] y)) ∧ w3 = w2) :=
    mk_fun (O := tabL [([1, 1, 1, 1, 0, 1], ref11_Solve_l0_se K), ([1, 1, 1, 1, 1, 1, 0, 1], ref11_Solve_l1_se K), ([1, 1, 1, 1, 1, 1, 0, 1, 0, 0, 1, 0, 0, 1, 1, 0, 1], ref11_Solve_l2_se K), ([1, 1, 1, 1, 1, 1, 0, 1, 0, 0, 1, 0, 0, 1, 1, 0, 1, 0, 0, 0, 0], ref11_Solve_s3_se K), ([1, 1, 1, 1, 1, 1, 0, 1, 0, 0, 1, 0, 0, 1, 1, 1, 1, 1, 1, 0, 1], ref11_Solve_l4_se K), ([1, 1, 1, 1, 1, 1, 0, 1, 0, 0, 1, 0, 0, 1, 1, 1, 1, 1, 1, 1, 1], ref11_Solve_l5_se K), ([1, 1, 1, 1, 1, 1, 0, 1, 0, 0, 1, 0, 0, 1, 1, 1, 1, 1, 1, 1, 1, 0, 0, 1, 0, 0, 0, 0], ref11_Solve_s6_se K), ([1, 1, 1, 1, 1, 1, 0, 1, 0, 0, 1, 0, 0, 1, 1, 1, 1, 1, 1, 1, 1, 0, 0, 1, 0, 0, 1, 1, 1], ref11_Solve_l7_se K), ([1, 1, 1, 1, 1, 1, 1, 0, 1], ref11_Solve_l8_se K), ([1, 1, 1, 1, 1, 1, 1, 1, 0, 1], ref11_Solve_l9_se K)]) (Lp := [(0, .sl)]) (Rt := [.sl, .bool]) (S := (fun x w => ref11_Solve K x.1 w)) (ref11_Solve_Eok K) (ref11_Solve_Rok K) rfl ref11_Solve_facts (Orc.cons (by kernel_rfl) (ref11_Solve_l0_se_ok K [(0, 198)] (by kernel_rfl)) (Orc.cons (by kernel_rfl) (ref11_Solve_l1_se_ok K [(0, 198)] (by kernel_rfl)) (Orc.cons (by kernel_rfl) (ref11_Solve_l2_se_ok K [(0, 198)] (by kernel_rfl)) (Orc.cons (by kernel_rfl) (ref11_Solve_s3_se_ok K [(0, 198)] (by kernel_rfl)) (Orc.cons (by kernel_rfl) (ref11_Solve_l4_se_ok K [(0, 198)] (by kernel_rfl)) (Orc.cons (by kernel_rfl) (ref11_Solve_l5_se_ok K [(0, 198)] (by kernel_rfl)) (Orc.cons (by kernel_rfl) (ref11_Solve_s6_se_ok K [(0, 198)] (by kernel_rfl)) (Orc.cons (by kernel_rfl) (ref11_Solve_l7_se_ok K [(0, 198)] (by kernel_rfl)) (Orc.cons (by kernel_rfl) (ref11_Solve_l8_se_ok K [(0, 198)] (by kernel_rfl)) (Orc.cons (by kernel_rfl) (ref11_Solve_l9_se_ok K [(0, 198)] (by kernel_rfl)) (Orc.nil _ _ _))))))))))) (fun _ _ => by kernel_rfl) x w y w2 h
noncomputable def ref11_Solve_ce (K : Nat) : CE := funE [(0, .sl)] [.sl, .bool] (fun x w => ref11_Solve K x.1 w)
theorem ref11_Solve_ok (K : Nat) : (ref11_Solve_ce K).Ok prog 37 := funE_ok (Rt := [.sl, .bool]) (S := (fun x w => ref11_Solve K x.1 w)) ref11_Solve_facts fun x w y w2 h => ref11_Solve_calls K x w y w2 h

noncomputable def ref11_Coded_E (K : Nat) : List (Nat × CE) := [(28, ref11_Sums_ce K), (29, ref11_Powers_ce K), (37, ref11_Solve_ce K)]
theorem ref11_Coded_Eok (K : Nat) : Env.Ok prog (tab (ref11_Coded_E K)) := (Env.cons (ref11_Sums_ok K) (Env.cons (ref11_Powers_ok K) (Env.cons (ref11_Solve_ok K) (Env.nil _))))
noncomputable def ref11_Coded_R (K : Nat) : List (Nat × RE) := []
theorem ref11_Coded_Rok (K : Nat) : REnv.Ok prog (tab (ref11_Coded_R K)) := (REnv.nil _)
noncomputable def ref11_Coded_l0_b (K : Nat) (rec : Sl → Addr → Sl → Sl → Int → World → Option ((Sl × Unit) × World)) (b0 : Sl) (s4 : Addr) (p5 : Sl) (m6 : Sl) (j7 : Int) (w : World) : Option ((Sl × Unit) × World) :=
  if (decide (j7 < 4)) = true then ((p5.a).bind fun p_16 =>
  if (0 : Int) ≤ (IntKind.i64.wrap (3 * j7)) ∧ (IntKind.i64.wrap (3 * j7)) < ((p5.len : Nat) : Int) then ((p5.a).bind fun p_17 =>
  if (0 : Int) ≤ (IntKind.i64.wrap (2 * j7)) ∧ (IntKind.i64.wrap (2 * j7)) < ((p5.len : Nat) : Int) then ((p5.a).bind fun p_18 =>
  if (0 : Int) ≤ j7 ∧ j7 < ((p5.len : Nat) : Int) then (if (0 : Int) ≤ j7 ∧ j7 < ((4 : Nat) : Int) then ((ldI .u8 (p_16.add ((Int.toNat (IntKind.i64.wrap (3 * j7))) * 1)) w.drew).bind fun v_19 =>
  (ldI .u8 (p_17.add ((Int.toNat (IntKind.i64.wrap (2 * j7))) * 1)) w.drew).bind fun v_20 =>
  (ldI .u8 (p_18.add ((Int.toNat j7) * 1)) w.drew).bind fun v_21 =>
  (ldI .u8 (s4.add ((Int.toNat j7) * 1)) w.drew).bind fun v_22 =>
  bnd (bldS prog 25 5 #[(0, (.int .u8 v_19)), (1, (.int .u8 v_20)), (2, (.int .u8 v_21)), (3, (.int .u8 1)), (4, (.int .u8 v_22))] w.drew) fun s_23 w_24 =>
  bnd (bldS prog 68 1 #[(0, (.slice s_23.a s_23.len s_23.cap))] w_24) fun s_25 w_26 =>
  bnd (apd prog 68 68 (.slice m6.a m6.len m6.cap) (.slice s_25.a s_25.len s_25.cap) w_26) fun s_27 w_28 =>
  rec b0 s4 p5 s_27 (IntKind.i64.wrap (j7 + 1)) w_28) else none) else none) else none) else none) else (some ((m6, ()), w))
noncomputable def ref11_Coded_l0 (K : Nat) (n : Nat) : Sl → Addr → Sl → Sl → Int → World → Option ((Sl × Unit) × World) := iter (fun _ _ _ _ _ _ => none) (ref11_Coded_l0_b K) n
/-- coffer/cofferref11.Coded -/
noncomputable def ref11_Coded (K : Nat) (b0 : Sl) (w : World) : Option ((Sl × Unit) × World) :=
  bnd (bldS prog 25 0 #[] w) fun s_1 w_2 =>
  bnd (apd prog 25 25 (.slice s_1.a s_1.len s_1.cap) (.slice b0.a b0.len b0.cap) w_2) fun s_3 w_4 =>
  bnd (bldS prog 25 4 #[(0, (.int .u8 0)), (1, (.int .u8 0)), (2, (.int .u8 0)), (3, (.int .u8 0))] w_4) fun s_5 w_6 =>
  bnd (apd prog 25 25 (.slice s_3.a s_3.len s_3.cap) (.slice s_5.a s_5.len s_5.cap) w_6) fun s_7 w_8 =>
  bnd (ref11_Sums K s_7 w_8) fun r_9 w_10 =>
  bnd (newB z60 60 w_10) fun s_11 w_12 =>
  if (r_9.1).size = 4 then ((stA s_11 r_9.1 w_12).bind fun w_13 =>
  bnd (ref11_Powers K 255 w_13) fun r_14 w_15 =>
  bnd (ref11_Coded_l0 K K b0 s_11 r_14.1 ⟨none, 0, 0⟩ 0 w_15) fun y_29 w_30 =>
  bnd (ref11_Solve K y_29.1 w_30) fun r_31 w_32 =>
  bnd (bldS prog 25 0 #[] w_32) fun s_33 w_34 =>
  bnd (apd prog 25 25 (.slice s_33.a s_33.len s_33.cap) (.slice b0.a b0.len b0.cap) w_34) fun s_35 w_36 =>
  bnd (apd prog 25 25 (.slice s_35.a s_35.len s_35.cap) (.slice r_31.1.a r_31.1.len r_31.1.cap) w_36) fun s_37 w_38 =>
  some ((s_37, ()), w_38)) else none
theorem ref11_Coded_l0_ok (K : Nat) (n : Nat) : StmtNOk prog [(0, .sl), (4, .addr), (5, .sl), (6, .sl), (7, .int .i64)] [(6, .sl)] [(6, 8), (18, 43)] ((fun n x w => ref11_Coded_l0 K n x.1 x.2.1 x.2.2.1 x.2.2.2.1 x.2.2.2.2.1 w) n) (.block 0 (.loop (cd (bodyOf f31) [1, 1, 1, 1, 1, 0, 1, 0, 0]))) :=
    mk_loopN (O := tabL []) (root := (bodyOf f31)) (π := [1, 1, 1, 1, 1, 0, 1, 0, 0]) (id := 0) (Li := [(0, .sl), (4, .addr), (5, .sl), (6, .sl), (7, .int .i64)]) (Lo := [(6, .sl)]) (S := (fun n x w => ref11_Coded_l0 K n x.1 x.2.1 x.2.2.1 x.2.2.2.1 x.2.2.2.2.1 w)) (body := cd (bodyOf f31) [1, 1, 1, 1, 1, 0, 1, 0, 0]) (ref11_Coded_Eok K) (ref11_Coded_Rok K) rfl (Orc.nil _ _ _) (by kernel_rfl) (fun _ _ => by kernel_rfl) (fun _ _ _ => by kernel_rfl) n
noncomputable def ref11_Coded_l0_se (K : Nat) : SE := stmtN [(0, .sl), (4, .addr), (5, .sl), (6, .sl), (7, .int .i64)] [(6, .sl)] [(6, 8), (18, 43)] (fun x w => ref11_Coded_l0 K K x.1 x.2.1 x.2.2.1 x.2.2.2.1 x.2.2.2.2.1 w)
theorem ref11_Coded_l0_se_ok (K : Nat) (R : Rg) (h : subRB [(6, 8), (18, 43)] R = true) : (ref11_Coded_l0_se K).Ok prog R (.block 0 (.loop (cd (bodyOf f31) [1, 1, 1, 1, 1, 0, 1, 0, 0]))) := stmtN_ok (Li := [(0, .sl), (4, .addr), (5, .sl), (6, .sl), (7, .int .i64)]) (Lo := [(6, .sl)]) (S := (fun x w => ref11_Coded_l0 K K x.1 x.2.1 x.2.2.1 x.2.2.2.1 x.2.2.2.2.1 w)) (ref11_Coded_l0_ok K K) (subR_of h)
theorem ref11_Coded_facts : FunFacts prog 31 f31 (bodyOf f31) [(0, .sl)] [(0, 53)] := ⟨func31, by kernel_rfl, by kernel_rfl, by kernel_rfl, by kernel_rfl, by kernel_rfl⟩
theorem ref11_Coded_calls (K : Nat) (x : TT [(0, .sl)]) (w : World) (y : TR [.sl]) (w2 : World) (h : ref11_Coded K x.1 w = some (y, w2)) : Calls prog 31 (encA [(0, .sl)] x).toArray w (fun e w3 => e = .returned (resV (encR [.sl] y)) ∧ w3 = w2) :=
    mk_fun (O := tabL [([1, 1, 1, 1, 1, 0, 1], ref11_Coded_l0_se K)]) (Lp := [(0, .sl)]) (Rt := [.sl]) (S := (fun x w => ref11_Coded K x.1 w)) (ref11_Coded_Eok K) (ref11_Coded_Rok K) rfl ref11_Coded_facts (Orc.cons (by kernel_rfl) (ref11_Coded_l0_se_ok K [(0, 53)] (by kernel_rfl)) (Orc.nil _ _ _)) (fun _ _ => by kernel_rfl) x w y w2 h
noncomputable def ref11_Coded_ce (K : Nat) : CE := funE [(0, .sl)] [.sl] (fun x w => ref11_Coded K x.1 w)
theorem ref11_Coded_ok (K : Nat) : (ref11_Coded_ce K).Ok prog 31 := funE_ok (Rt := [.sl]) (S := (fun x w => ref11_Coded K x.1 w)) ref11_Coded_facts fun x w y w2 h => ref11_Coded_calls K x w y w2 h

noncomputable def ref11_Bytes_E (K : Nat) : List (Nat × CE) := [(31, ref11_Coded_ce K)]
theorem ref11_Bytes_Eok (K : Nat) : Env.Ok prog (tab (ref11_Bytes_E K)) := (Env.cons (ref11_Coded_ok K) (Env.nil _))
noncomputable def ref11_Bytes_R (K : Nat) : List (Nat × RE) := []
theorem ref11_Bytes_Rok (K : Nat) : REnv.Ok prog (tab (ref11_Bytes_R K)) := (REnv.nil _)
/-- coffer/cofferref11.Bytes -/
noncomputable def ref11_Bytes (K : Nat) (s0 : Array Value) (values1 : Sl) (w : World) : Option ((Sl × Unit) × World) :=
  bnd (newB s0 33 w) fun p_1 w_2 =>
  (ldI .u16 (p_1.add 0) w_2).bind fun v_3 =>
  (ldI .u16 (p_1.add 0) w_2).bind fun v_4 =>
  (ldI .i64 (p_1.add 1) w_2).bind fun v_5 =>
  (ldI .i64 (p_1.add 2) w_2).bind fun v_6 =>
  (ldI .i64 (p_1.add 3) w_2).bind fun v_7 =>
  bnd (bldS prog 25 5 #[(0, (.int .u8 (IntKind.u8.wrap (IntKind.u16.wrap (Int.tdiv v_3 256))))), (1, (.int .u8 (IntKind.u8.wrap (Int.tmod v_4 256)))), (2, (.int .u8 (IntKind.u8.wrap v_5))), (3, (.int .u8 (IntKind.u8.wrap v_6))), (4, (.int .u8 (IntKind.u8.wrap v_7)))] w_2) fun s_8 w_9 =>
  bnd (apd prog 25 25 (.slice s_8.a s_8.len s_8.cap) (.slice values1.a values1.len values1.cap) w_9) fun s_10 w_11 =>
  if ((Int.tmod ((s_10.len : Nat) : Int) 2) == 1) = true then (bnd (bldS prog 25 1 #[(0, (.int .u8 0))] w_11) fun s_12 w_13 =>
  bnd (apd prog 25 25 (.slice s_10.a s_10.len s_10.cap) (.slice s_12.a s_12.len s_12.cap) w_13) fun s_14 w_15 =>
  bnd (ref11_Coded K s_14 w_15) fun r_16 w_17 =>
  some ((r_16.1, ()), w_17)) else (bnd (ref11_Coded K s_10 w_11) fun r_18 w_19 =>
  some ((r_18.1, ()), w_19))
theorem ref11_Bytes_facts : FunFacts prog 23 f23 (bodyOf f23) [(0, .agg), (1, .sl)] [(0, 36)] := ⟨func23, by kernel_rfl, by kernel_rfl, by kernel_rfl, by kernel_rfl, by kernel_rfl⟩
theorem ref11_Bytes_calls (K : Nat) (x : TT [(0, .agg), (1, .sl)]) (w : World) (y : TR [.sl]) (w2 : World) (h : ref11_Bytes K x.1 x.2.1 w = some (y, w2)) : Calls prog 23 (encA [(0, .agg), (1, .sl)] x).toArray w (fun e w3 => e = .returned (resV (encR [.sl] y)) ∧ w3 = w2) :=
    mk_fun (O := tabL []) (Lp := [(0, .agg), (1, .sl)]) (Rt := [.sl]) (S := (fun x w => ref11_Bytes K x.1 x.2.1 w)) (ref11_Bytes_Eok K) (ref11_Bytes_Rok K) rfl ref11_Bytes_facts (Orc.nil _ _ _) (fun _ _ => by kernel_rfl) x w y w2 h
noncomputable def ref11_Bytes_ce (K : Nat) : CE := funE [(0, .agg), (1, .sl)] [.sl] (fun x w => ref11_Bytes K x.1 x.2.1 w)
theorem ref11_Bytes_ok (K : Nat) : (ref11_Bytes_ce K).Ok prog 23 := funE_ok (Rt := [.sl]) (S := (fun x w => ref11_Bytes K x.1 x.2.1 w)) ref11_Bytes_facts fun x w y w2 h => ref11_Bytes_calls K x w y w2 h

end Go.Sh

/- What functions of the program do, as Lean functions; that the machine does just that. Printed by shal.py, a program of this claim's writer. -/
set_option maxRecDepth 100000
set_option linter.unusedVariables false
namespace Go.Sh
open Go.Fw Go.Proofs.Try

noncomputable def ref11_Part_Line_E (K : Nat) : List (Nat × CE) := [(23, ref11_Bytes_ce K), (12, ref11_Words_ce K)]
theorem ref11_Part_Line_Eok (K : Nat) : Env.Ok prog (tab (ref11_Part_Line_E K)) := (Env.cons (ref11_Bytes_ok K) (Env.cons (ref11_Words_ok K) (Env.nil _)))
noncomputable def ref11_Part_Line_R (K : Nat) : List (Nat × RE) := []
theorem ref11_Part_Line_Rok (K : Nat) : REnv.Ok prog (tab (ref11_Part_Line_R K)) := (REnv.nil _)
/-- (coffer/cofferref11.Part).Line -/
noncomputable def ref11_Part_Line (K : Nat) (p0 : Array Value) (w : World) : Option ((ByteArray × Unit) × World) :=
  bnd (newB p0 35 w) fun p_1 w_2 =>
  (ldA 4 (p_1.add 0) w_2).bind fun v_3 =>
  (ldS (p_1.add 4) w_2).bind fun v_4 =>
  bnd (ref11_Bytes K v_3 v_4 w_2) fun r_5 w_6 =>
  bnd (ref11_Words K r_5.1 w_6) fun r_7 w_8 =>
  some ((r_7.1, ()), w_8)
theorem ref11_Part_Line_facts : FunFacts prog 15 f15 (bodyOf f15) [(0, .agg)] [(0, 9)] := ⟨func15, by kernel_rfl, by kernel_rfl, by kernel_rfl, by kernel_rfl, by kernel_rfl⟩
theorem ref11_Part_Line_calls (K : Nat) (x : TT [(0, .agg)]) (w : World) (y : TR [.str]) (w2 : World) (h : ref11_Part_Line K x.1 w = some (y, w2)) : Calls prog 15 (encA [(0, .agg)] x).toArray w (fun e w3 => e = .returned (resV (encR [.str] y)) ∧ w3 = w2) :=
    mk_fun (O := tabL []) (Lp := [(0, .agg)]) (Rt := [.str]) (S := (fun x w => ref11_Part_Line K x.1 w)) (ref11_Part_Line_Eok K) (ref11_Part_Line_Rok K) rfl ref11_Part_Line_facts (Orc.nil _ _ _) (fun _ _ => by kernel_rfl) x w y w2 h
noncomputable def ref11_Part_Line_ce (K : Nat) : CE := funE [(0, .agg)] [.str] (fun x w => ref11_Part_Line K x.1 w)
theorem ref11_Part_Line_ok (K : Nat) : (ref11_Part_Line_ce K).Ok prog 15 := funE_ok (Rt := [.str]) (S := (fun x w => ref11_Part_Line K x.1 w)) ref11_Part_Line_facts fun x w y w2 h => ref11_Part_Line_calls K x w y w2 h

noncomputable def escrow_worth_E (K : Nat) : List (Nat × CE) := []
theorem escrow_worth_Eok (K : Nat) : Env.Ok prog (tab (escrow_worth_E K)) := (Env.nil _)
noncomputable def escrow_worth_R (K : Nat) : List (Nat × RE) := []
theorem escrow_worth_Rok (K : Nat) : REnv.Ok prog (tab (escrow_worth_R K)) := (REnv.nil _)
noncomputable def escrow_worth_s1 (K : Nat) (set6 : ByteArray) (bits7 : Int) (a18 : Bool) (w : World) : Option ((ByteArray × Int × Unit) × World) :=
  if a18 = true then (some ((str2, 2, ()), w)) else (some ((set6, bits7, ()), w))
noncomputable def escrow_worth_l2_b (K : Nat) (rec : Int → Int → ByteArray → Int → Sl → Int → Int → Int → Int → World → Option ((Out (Unit) (Int × Unit)) × World)) (v3 : Int) (c5 : Int) (set6 : ByteArray) (bits7 : Int) (a9 : Sl) (a10 : Int) (a11 : Int) (a20 : Int) (a21 : Int) (w : World) : Option ((Out (Unit) (Int × Unit)) × World) :=
  if (decide (a21 < a20)) = true then (if (0 : Int) ≤ a21 then ((set6[(Int.toNat a21)]?).bind fun b_5 =>
  if (((b_5.toNat : Nat) : Int) == c5) = true then (if (0 : Int) ≤ bits7 then (some (.ret ((bits .or .i64 (IntKind.i64.wrap (v3 * 2 ^ (min (Int.toNat bits7) IntKind.i64.bits))) a21), ()), w)) else none) else (rec v3 c5 set6 bits7 a9 a10 a11 a20 (IntKind.i64.wrap (a21 + 1)) w)) else none) else (some (.norm (), w))
noncomputable def escrow_worth_l2 (K : Nat) (n : Nat) : Int → Int → ByteArray → Int → Sl → Int → Int → Int → Int → World → Option ((Out (Unit) (Int × Unit)) × World) := iter (fun _ _ _ _ _ _ _ _ _ _ => none) (escrow_worth_l2_b K) n
noncomputable def escrow_worth_l0_b (K : Nat) (rec : Int → Sl → Int → Int → World → Option ((Out (Int × Unit) (Int × Unit)) × World)) (v3 : Int) (a9 : Sl) (a10 : Int) (a11 : Int) (w : World) : Option ((Out (Int × Unit) (Int × Unit)) × World) :=
  if (decide (a11 < a10)) = true then ((a9.a).bind fun p_1 =>
  if (0 : Int) ≤ a11 ∧ a11 < ((a9.len : Nat) : Int) then ((ldI .u8 (p_1.add ((Int.toNat a11) * 1)) w).bind fun v_2 =>
  bnd (escrow_worth_s1 K str1 4 ((Int.tmod a11 2) == 1) w) fun y_3 w_4 =>
  bnd (escrow_worth_l2 K K v3 v_2 y_3.1 y_3.2.1 a9 a10 a11 ((y_3.1.size : Nat) : Int) 0 w_4) fun y_6 w_7 =>
  (match y_6 with
  | .norm z_8n => (some (.ret (0, ()), w_7))
  | .ret z_8r => (rec z_8r.1 a9 a10 (IntKind.i64.wrap (a11 + 1)) w_7))) else none) else (some (.norm (v3, ()), w))
noncomputable def escrow_worth_l0 (K : Nat) (n : Nat) : Int → Sl → Int → Int → World → Option ((Out (Int × Unit) (Int × Unit)) × World) := iter (fun _ _ _ _ _ => none) (escrow_worth_l0_b K) n
/-- coffer/escrow.worth -/
noncomputable def escrow_worth (K : Nat) (word0 : Sl) (w : World) : Option ((Int × Unit) × World) :=
  bnd (escrow_worth_l0 K K 0 word0 ((word0.len : Nat) : Int) 0 w) fun y_9 w_10 =>
  (match y_9 with
  | .norm z_11n => (some ((z_11n.1, ()), w_10))
  | .ret z_11r => (some ((z_11r.1, ()), w_10)))
theorem escrow_worth_s1_ok (K : Nat) : StmtNOk prog [(6, .str), (7, .int .i64), (18, .bool)] [(6, .str), (7, .int .i64)] [(6, 8)] (fun x w => escrow_worth_s1 K x.1 x.2.1 x.2.2.1 w) (cd (bodyOf f39) [1, 0, 1, 1, 0, 1, 0, 0, 1, 1, 0, 0, 1, 1, 0, 1]) :=
    mk_stmtN (O := tabL []) (root := (bodyOf f39)) (π := [1, 0, 1, 1, 0, 1, 0, 0, 1, 1, 0, 0, 1, 1, 0, 1]) (Li := [(6, .str), (7, .int .i64), (18, .bool)]) (Lo := [(6, .str), (7, .int .i64)]) (S := (fun x w => escrow_worth_s1 K x.1 x.2.1 x.2.2.1 w)) (escrow_worth_Eok K) (escrow_worth_Rok K) rfl (Orc.nil _ _ _) (by kernel_rfl) (fun _ _ => by kernel_rfl)
noncomputable def escrow_worth_s1_se (K : Nat) : SE := stmtN [(6, .str), (7, .int .i64), (18, .bool)] [(6, .str), (7, .int .i64)] [(6, 8)] (fun x w => escrow_worth_s1 K x.1 x.2.1 x.2.2.1 w)
theorem escrow_worth_s1_se_ok (K : Nat) (R : Rg) (h : subRB [(6, 8)] R = true) : (escrow_worth_s1_se K).Ok prog R (cd (bodyOf f39) [1, 0, 1, 1, 0, 1, 0, 0, 1, 1, 0, 0, 1, 1, 0, 1]) := stmtN_ok (Li := [(6, .str), (7, .int .i64), (18, .bool)]) (Lo := [(6, .str), (7, .int .i64)]) (S := (fun x w => escrow_worth_s1 K x.1 x.2.1 x.2.2.1 w)) (escrow_worth_s1_ok K) (subR_of h)
theorem escrow_worth_l2_ok (K : Nat) (n : Nat) : StmtEOk prog 1 [(3, .int .i64), (5, .int .u8), (6, .str), (7, .int .i64), (9, .sl), (10, .int .i64), (11, .int .i64), (20, .int .i64), (21, .int .i64)] [] [(3, .int .i64)] [(3, 4), (8, 9), (21, 35)] ((fun n x w => escrow_worth_l2 K n x.1 x.2.1 x.2.2.1 x.2.2.2.1 x.2.2.2.2.1 x.2.2.2.2.2.1 x.2.2.2.2.2.2.1 x.2.2.2.2.2.2.2.1 x.2.2.2.2.2.2.2.2.1 w) n) (.block 2 (.loop (cd (bodyOf f39) [1, 0, 1, 1, 0, 1, 0, 0, 1, 1, 0, 0, 1, 1, 1, 0, 1, 0, 0]))) :=
    mk_loopE (O := tabL []) (root := (bodyOf f39)) (π := [1, 0, 1, 1, 0, 1, 0, 0, 1, 1, 0, 0, 1, 1, 1, 0, 1, 0, 0]) (id := 2) (m := 1) (Li := [(3, .int .i64), (5, .int .u8), (6, .str), (7, .int .i64), (9, .sl), (10, .int .i64), (11, .int .i64), (20, .int .i64), (21, .int .i64)]) (Lo := []) (Lx := [(3, .int .i64)]) (S := (fun n x w => escrow_worth_l2 K n x.1 x.2.1 x.2.2.1 x.2.2.2.1 x.2.2.2.2.1 x.2.2.2.2.2.1 x.2.2.2.2.2.2.1 x.2.2.2.2.2.2.2.1 x.2.2.2.2.2.2.2.2.1 w)) (body := cd (bodyOf f39) [1, 0, 1, 1, 0, 1, 0, 0, 1, 1, 0, 0, 1, 1, 1, 0, 1, 0, 0]) (escrow_worth_Eok K) (escrow_worth_Rok K) rfl (Orc.nil _ _ _) (by kernel_rfl) (fun _ _ => by kernel_rfl) (fun _ _ _ => by kernel_rfl) n
noncomputable def escrow_worth_l2_se (K : Nat) : SE := stmtE 1 [(3, .int .i64), (5, .int .u8), (6, .str), (7, .int .i64), (9, .sl), (10, .int .i64), (11, .int .i64), (20, .int .i64), (21, .int .i64)] [] [(3, .int .i64)] [(3, 4), (8, 9), (21, 35)] (fun x w => escrow_worth_l2 K K x.1 x.2.1 x.2.2.1 x.2.2.2.1 x.2.2.2.2.1 x.2.2.2.2.2.1 x.2.2.2.2.2.2.1 x.2.2.2.2.2.2.2.1 x.2.2.2.2.2.2.2.2.1 w)
theorem escrow_worth_l2_se_ok (K : Nat) (R : Rg) (h : subRB [(3, 4), (8, 9), (21, 35)] R = true) : (escrow_worth_l2_se K).Ok prog R (.block 2 (.loop (cd (bodyOf f39) [1, 0, 1, 1, 0, 1, 0, 0, 1, 1, 0, 0, 1, 1, 1, 0, 1, 0, 0]))) := stmtE_ok (m := 1) (Li := [(3, .int .i64), (5, .int .u8), (6, .str), (7, .int .i64), (9, .sl), (10, .int .i64), (11, .int .i64), (20, .int .i64), (21, .int .i64)]) (Lo := []) (Lx := [(3, .int .i64)]) (S := (fun x w => escrow_worth_l2 K K x.1 x.2.1 x.2.2.1 x.2.2.2.1 x.2.2.2.2.1 x.2.2.2.2.2.1 x.2.2.2.2.2.2.1 x.2.2.2.2.2.2.2.1 x.2.2.2.2.2.2.2.2.1 w)) (escrow_worth_l2_ok K K) (subR_of h)
theorem escrow_worth_l0_ok (K : Nat) (n : Nat) : StmtOk prog [(3, .int .i64), (9, .sl), (10, .int .i64), (11, .int .i64)] [(3, .int .i64)] [(2, .int .i64)] [(2, 9), (11, 36)] ((fun n x w => escrow_worth_l0 K n x.1 x.2.1 x.2.2.1 x.2.2.2.1 w) n) (.block 0 (.loop (cd (bodyOf f39) [1, 0, 1, 1, 0, 1, 0, 0]))) :=
    mk_loop (O := tabL [([1, 0, 1, 1, 0, 1, 0, 0, 1, 1, 0, 0, 1, 1, 0, 1], escrow_worth_s1_se K), ([1, 0, 1, 1, 0, 1, 0, 0, 1, 1, 0, 0, 1, 1, 1, 0, 1], escrow_worth_l2_se K)]) (root := (bodyOf f39)) (π := [1, 0, 1, 1, 0, 1, 0, 0]) (id := 0) (Li := [(3, .int .i64), (9, .sl), (10, .int .i64), (11, .int .i64)]) (Lo := [(3, .int .i64)]) (Lr := [(2, .int .i64)]) (S := (fun n x w => escrow_worth_l0 K n x.1 x.2.1 x.2.2.1 x.2.2.2.1 w)) (body := cd (bodyOf f39) [1, 0, 1, 1, 0, 1, 0, 0]) (escrow_worth_Eok K) (escrow_worth_Rok K) rfl (Orc.cons (by kernel_rfl) (escrow_worth_s1_se_ok K [(2, 9), (11, 36)] (by kernel_rfl)) (Orc.cons (by kernel_rfl) (escrow_worth_l2_se_ok K [(2, 9), (11, 36)] (by kernel_rfl)) (Orc.nil _ _ _))) (by kernel_rfl) (fun _ _ => by kernel_rfl) (fun _ _ _ => by kernel_rfl) n
noncomputable def escrow_worth_l0_se (K : Nat) : SE := stmt [(3, .int .i64), (9, .sl), (10, .int .i64), (11, .int .i64)] [(3, .int .i64)] [(2, .int .i64)] [(2, 9), (11, 36)] (fun x w => escrow_worth_l0 K K x.1 x.2.1 x.2.2.1 x.2.2.2.1 w)
theorem escrow_worth_l0_se_ok (K : Nat) (R : Rg) (h : subRB [(2, 9), (11, 36)] R = true) : (escrow_worth_l0_se K).Ok prog R (.block 0 (.loop (cd (bodyOf f39) [1, 0, 1, 1, 0, 1, 0, 0]))) := stmt_ok (Li := [(3, .int .i64), (9, .sl), (10, .int .i64), (11, .int .i64)]) (Lo := [(3, .int .i64)]) (Lr := [(2, .int .i64)]) (S := (fun x w => escrow_worth_l0 K K x.1 x.2.1 x.2.2.1 x.2.2.2.1 w)) (escrow_worth_l0_ok K K) (subR_of h)
theorem escrow_worth_facts : FunFacts prog 39 f39 (bodyOf f39) [(0, .sl)] [(0, 37)] := ⟨func39, by kernel_rfl, by kernel_rfl, by kernel_rfl, by kernel_rfl, by kernel_rfl⟩
theorem escrow_worth_calls (K : Nat) (x : TT [(0, .sl)]) (w : World) (y : TR [.int .i64]) (w2 : World) (h : escrow_worth K x.1 w = some (y, w2)) : Calls prog 39 (encA [(0, .sl)] x).toArray w (fun e w3 => e = .returned (resV (encR [.int .i64] y)) ∧ w3 = w2) :=
    mk_fun (O := tabL [([1, 0, 1, 1, 0, 1], escrow_worth_l0_se K), ([1, 0, 1, 1, 0, 1, 0, 0, 1, 1, 0, 0, 1, 1, 0, 1], escrow_worth_s1_se K), ([1, 0, 1, 1, 0, 1, 0, 0, 1, 1, 0, 0, 1, 1, 1, 0, 1], escrow_worth_l2_se K)]) (Lp := [(0, .sl)]) (Rt := [.int .i64]) (S := (fun x w => escrow_worth K x.1 w)) (escrow_worth_Eok K) (escrow_worth_Rok K) rfl escrow_worth_facts (Orc.cons (by kernel_rfl) (escrow_worth_l0_se_ok K [(0, 37)] (by kernel_rfl)) (Orc.cons (by kernel_rfl) (escrow_worth_s1_se_ok K [(0, 37)] (by kernel_rfl)) (Orc.cons (by kernel_rfl) (escrow_worth_l2_se_ok K [(0, 37)] (by kernel_rfl)) (Orc.nil _ _ _)))) (fun _ _ => by kernel_rfl) x w y w2 h
noncomputable def escrow_worth_ce (K : Nat) : CE := funE [(0, .sl)] [.int .i64] (fun x w => escrow_worth K x.1 w)
theorem escrow_worth_ok (K : Nat) : (escrow_worth_ce K).Ok prog 39 := funE_ok (Rt := [.int .i64]) (S := (fun x w => escrow_worth K x.1 w)) escrow_worth_facts fun x w y w2 h => escrow_worth_calls K x w y w2 h

noncomputable def escrow_unworded_1_E (K : Nat) : List (Nat × CE) := [(39, escrow_worth_ce K)]
theorem escrow_unworded_1_Eok (K : Nat) : Env.Ok prog (tab (escrow_unworded_1_E K)) := (Env.cons (escrow_worth_ok K) (Env.nil _))
noncomputable def escrow_unworded_1_R (K : Nat) : List (Nat × RE) := []
theorem escrow_unworded_1_Rok (K : Nat) : REnv.Ok prog (tab (escrow_unworded_1_R K)) := (REnv.nil _)
/-- coffer/escrow.unworded$1 -/
noncomputable def escrow_unworded_1 (K : Nat) (a0 : Option Addr) (a1 : Option Addr) (a2 : Option Addr) (w : World) : Option ((Unit) × World) :=
  (a0).bind fun p_1 =>
  (ldS p_1 w).bind fun v_2 =>
  if (((v_2.len : Nat) : Int) == 0) = true then (some ((), w)) else ((a0).bind fun p_3 =>
  (ldS p_3 w).bind fun v_4 =>
  if (((v_4.len : Nat) : Int) != 5) = true then ((a1).bind fun p_5 =>
  (stC p_5 (.bool false) w).bind fun w_6 =>
  some ((), w_6)) else ((a0).bind fun p_7 =>
  (ldS p_7 w).bind fun v_8 =>
  bnd (escrow_worth K v_8 w) fun r_9 w_10 =>
  (a2).bind fun p_11 =>
  (ldS p_11 w_10).bind fun v_12 =>
  bnd (bldS prog 25 2 #[(0, (.int .u8 (IntKind.u8.wrap (Int.fdiv r_9.1 (2 ^ 8))))), (1, (.int .u8 (IntKind.u8.wrap r_9.1)))] w_10) fun s_13 w_14 =>
  bnd (apd prog 25 25 (.slice v_12.a v_12.len v_12.cap) (.slice s_13.a s_13.len s_13.cap) w_14) fun s_15 w_16 =>
  (a2).bind fun p_17 =>
  (stC p_17 (.slice s_15.a s_15.len s_15.cap) w_16).bind fun w_18 =>
  (a0).bind fun p_19 =>
  (stC p_19 (.slice none 0 0) w_18).bind fun w_20 =>
  some ((), w_20)))
theorem escrow_unworded_1_facts : FunFacts prog 38 f38 (bodyOf f38) [(0, .ptr), (1, .ptr), (2, .ptr)] [(0, 20)] := ⟨func38, by kernel_rfl, by kernel_rfl, by kernel_rfl, by kernel_rfl, by kernel_rfl⟩
theorem escrow_unworded_1_calls (K : Nat) (x : TT [(0, .ptr), (1, .ptr), (2, .ptr)]) (w : World) (y : TR []) (w2 : World) (h : escrow_unworded_1 K x.1 x.2.1 x.2.2.1 w = some (y, w2)) : Calls prog 38 (encA [(0, .ptr), (1, .ptr), (2, .ptr)] x).toArray w (fun e w3 => e = .returned (resV (encR [] y)) ∧ w3 = w2) :=
    mk_fun (O := tabL []) (Lp := [(0, .ptr), (1, .ptr), (2, .ptr)]) (Rt := []) (S := (fun x w => escrow_unworded_1 K x.1 x.2.1 x.2.2.1 w)) (escrow_unworded_1_Eok K) (escrow_unworded_1_Rok K) rfl escrow_unworded_1_facts (Orc.nil _ _ _) (fun _ _ => by kernel_rfl) x w y w2 h
noncomputable def escrow_unworded_1_ce (K : Nat) : CE := funE [(0, .ptr), (1, .ptr), (2, .ptr)] [] (fun x w => escrow_unworded_1 K x.1 x.2.1 x.2.2.1 w)
theorem escrow_unworded_1_ok (K : Nat) : (escrow_unworded_1_ce K).Ok prog 38 := funE_ok (Rt := []) (S := (fun x w => escrow_unworded_1 K x.1 x.2.1 x.2.2.1 w)) escrow_unworded_1_facts fun x w y w2 h => escrow_unworded_1_calls K x w y w2 h

noncomputable def escrow_unworded_E (K : Nat) : List (Nat × CE) := [(38, escrow_unworded_1_ce K)]
theorem escrow_unworded_Eok (K : Nat) : Env.Ok prog (tab (escrow_unworded_E K)) := (Env.cons (escrow_unworded_1_ok K) (Env.nil _))
noncomputable def escrow_unworded_R (K : Nat) : List (Nat × RE) := []
theorem escrow_unworded_Rok (K : Nat) : REnv.Ok prog (tab (escrow_unworded_R K)) := (REnv.nil _)
noncomputable def escrow_unworded_s2 (K : Nat) (a19 : Int) (a32 : Bool) (w : World) : Option ((Bool × Unit) × World) :=
  if a32 = true then (some ((true, ()), w)) else (if (a19 == 9) = true then (some ((true, ()), w)) else (if (a19 == 10) = true then (some ((true, ()), w)) else (if (a19 == 13) = true then (some ((true, ()), w)) else (some (((a19 == 45), ()), w)))))
noncomputable def escrow_unworded_s3 (K : Nat) (c9 : Int) (w : World) : Option ((Bool × Unit) × World) :=
  if (decide (c9 ≥ 65)) = true then (some (((decide (c9 ≤ 90)), ()), w)) else (some ((false, ()), w))
noncomputable def escrow_unworded_s1 (K : Nat) (word5 : Addr) (end7 : Value) (c9 : Int) (a19 : Int) (w : World) : Option ((Unit) × World) :=
  bnd (escrow_unworded_s2 K a19 (a19 == 32) w) fun y_9 w_10 =>
  if y_9.1 = true then (dyn (tab (escrow_unworded_E K)) end7 [] w_10 fun v_11 w_12 =>
  some ((), w_12)) else (bnd (escrow_unworded_s3 K c9 w_10) fun y_13 w_14 =>
  if y_13.1 = true then ((ldS word5 w_14).bind fun v_15 =>
  bnd (bldS prog 25 1 #[(0, (.int .u8 (IntKind.u8.wrap (c9 + 32))))] w_14) fun s_16 w_17 =>
  bnd (apd prog 25 25 (.slice v_15.a v_15.len v_15.cap) (.slice s_16.a s_16.len s_16.cap) w_17) fun s_18 w_19 =>
  (stC word5 (.slice s_18.a s_18.len s_18.cap) w_19).bind fun w_20 =>
  some ((), w_20)) else ((ldS word5 w_14).bind fun v_21 =>
  bnd (bldS prog 25 1 #[(0, (.int .u8 c9))] w_14) fun s_22 w_23 =>
  bnd (apd prog 25 25 (.slice v_21.a v_21.len v_21.cap) (.slice s_22.a s_22.len s_22.cap) w_23) fun s_24 w_25 =>
  (stC word5 (.slice s_24.a s_24.len s_24.cap) w_25).bind fun w_26 =>
  some ((), w_26)))
noncomputable def escrow_unworded_l0_b (K : Nat) (rec : ByteArray → Addr → Addr → Addr → Value → Int → Int → World → Option ((Out (Unit) (Sl × Bool × Unit)) × World)) (text0 : ByteArray) (out4 : Addr) (word5 : Addr) (ok6 : Addr) (end7 : Value) (a12 : Int) (a13 : Int) (w : World) : Option ((Out (Unit) (Sl × Bool × Unit)) × World) :=
  if (decide (a13 < a12)) = true then (if (0 : Int) ≤ a13 then ((text0[(Int.toNat a13)]?).bind fun b_8 =>
  bnd (escrow_unworded_s1 K word5 end7 ((b_8.toNat : Nat) : Int) ((b_8.toNat : Nat) : Int) w) fun y_27 w_28 =>
  (ldB ok6 w_28).bind fun v_29 =>
  if (!v_29) = true then (some (.ret (⟨none, 0, 0⟩, false, ()), w_28)) else (rec text0 out4 word5 ok6 end7 a12 (IntKind.i64.wrap (a13 + 1)) w_28)) else none) else (some (.norm (), w))
noncomputable def escrow_unworded_l0 (K : Nat) (n : Nat) : ByteArray → Addr → Addr → Addr → Value → Int → Int → World → Option ((Out (Unit) (Sl × Bool × Unit)) × World) := iter (fun _ _ _ _ _ _ _ _ => none) (escrow_unworded_l0_b K) n
/-- coffer/escrow.unworded -/
noncomputable def escrow_unworded (K : Nat) (text0 : ByteArray) (w : World) : Option ((Sl × Bool × Unit) × World) :=
  bnd (newB z25 25 w) fun out_1 w_2 =>
  bnd (newB z25 25 w_2) fun word_3 w_4 =>
  bnd (newB z4 4 w_4) fun ok_5 w_6 =>
  (stC ok_5 (.bool true) w_6).bind fun w_7 =>
  bnd (escrow_unworded_l0 K K text0 out_1 word_3 ok_5 (.func (.func 38) #[] #[(.pointer (some word_3)), (.pointer (some ok_5)), (.pointer (some out_1))]) ((text0.size : Nat) : Int) 0 w_7) fun y_30 w_31 =>
  (match y_30 with
  | .norm z_32n => (dyn (tab (escrow_unworded_E K)) (.func (.func 38) #[] #[(.pointer (some word_3)), (.pointer (some ok_5)), (.pointer (some out_1))]) [] w_31 fun v_33 w_34 =>
  (ldS out_1 w_34.drew).bind fun v_35 =>
  (ldB ok_5 w_34.drew).bind fun v_36 =>
  some ((v_35, v_36, ()), w_34.drew))
  | .ret z_32r => (some ((z_32r.1, z_32r.2.1, ()), w_31)))
theorem escrow_unworded_s2_ok (K : Nat) : StmtNOk prog [(19, .int .u8), (32, .bool)] [(32, .bool)] [(32, 33), (34, 38)] (fun x w => escrow_unworded_s2 K x.1 x.2.1 w) (cd (bodyOf f32) [1, 1, 1, 1, 1, 0, 1, 0, 0, 1, 1, 0, 0, 1, 0, 1, 1, 0, 0, 1]) :=
    mk_stmtN (O := tabL []) (root := (bodyOf f32)) (π := [1, 1, 1, 1, 1, 0, 1, 0, 0, 1, 1, 0, 0, 1, 0, 1, 1, 0, 0, 1]) (Li := [(19, .int .u8), (32, .bool)]) (Lo := [(32, .bool)]) (S := (fun x w => escrow_unworded_s2 K x.1 x.2.1 w)) (escrow_unworded_Eok K) (escrow_unworded_Rok K) rfl (Orc.nil _ _ _) (by kernel_rfl) (fun _ _ => by kernel_rfl)
noncomputable def escrow_unworded_s2_se (K : Nat) : SE := stmtN [(19, .int .u8), (32, .bool)] [(32, .bool)] [(32, 33), (34, 38)] (fun x w => escrow_unworded_s2 K x.1 x.2.1 w)
theorem escrow_unworded_s2_se_ok (K : Nat) (R : Rg) (h : subRB [(32, 33), (34, 38)] R = true) : (escrow_unworded_s2_se K).Ok prog R (cd (bodyOf f32) [1, 1, 1, 1, 1, 0, 1, 0, 0, 1, 1, 0, 0, 1, 0, 1, 1, 0, 0, 1]) := stmtN_ok (Li := [(19, .int .u8), (32, .bool)]) (Lo := [(32, .bool)]) (S := (fun x w => escrow_unworded_s2 K x.1 x.2.1 w)) (escrow_unworded_s2_ok K) (subR_of h)
theorem escrow_unworded_s3_ok (K : Nat) : StmtNOk prog [(9, .int .u8)] [(25, .bool)] [(20, 26)] (fun x w => escrow_unworded_s3 K x.1 w) (cd (bodyOf f32) [1, 1, 1, 1, 1, 0, 1, 0, 0, 1, 1, 0, 0, 1, 0, 1, 1, 0, 1, 1, 0, 0]) :=
    mk_stmtN (O := tabL []) (root := (bodyOf f32)) (π := [1, 1, 1, 1, 1, 0, 1, 0, 0, 1, 1, 0, 0, 1, 0, 1, 1, 0, 1, 1, 0, 0]) (Li := [(9, .int .u8)]) (Lo := [(25, .bool)]) (S := (fun x w => escrow_unworded_s3 K x.1 w)) (escrow_unworded_Eok K) (escrow_unworded_Rok K) rfl (Orc.nil _ _ _) (by kernel_rfl) (fun _ _ => by kernel_rfl)
noncomputable def escrow_unworded_s3_se (K : Nat) : SE := stmtN [(9, .int .u8)] [(25, .bool)] [(20, 26)] (fun x w => escrow_unworded_s3 K x.1 w)
theorem escrow_unworded_s3_se_ok (K : Nat) (R : Rg) (h : subRB [(20, 26)] R = true) : (escrow_unworded_s3_se K).Ok prog R (cd (bodyOf f32) [1, 1, 1, 1, 1, 0, 1, 0, 0, 1, 1, 0, 0, 1, 0, 1, 1, 0, 1, 1, 0, 0]) := stmtN_ok (Li := [(9, .int .u8)]) (Lo := [(25, .bool)]) (S := (fun x w => escrow_unworded_s3 K x.1 w)) (escrow_unworded_s3_ok K) (subR_of h)
theorem escrow_unworded_s1_ok (K : Nat) : StmtNOk prog [(5, .addr), (7, .val), (9, .int .u8), (19, .int .u8)] [] [(9, 10), (20, 40)] (fun x w => escrow_unworded_s1 K x.1 x.2.1 x.2.2.1 x.2.2.2.1 w) (cd (bodyOf f32) [1, 1, 1, 1, 1, 0, 1, 0, 0, 1, 1, 0, 0, 1, 0, 1, 1]) :=
    mk_stmtN (O := tabL [([1, 1, 1, 1, 1, 0, 1, 0, 0, 1, 1, 0, 0, 1, 0, 1, 1, 0, 0, 1], escrow_unworded_s2_se K), ([1, 1, 1, 1, 1, 0, 1, 0, 0, 1, 1, 0, 0, 1, 0, 1, 1, 0, 1, 1, 0, 0], escrow_unworded_s3_se K)]) (root := (bodyOf f32)) (π := [1, 1, 1, 1, 1, 0, 1, 0, 0, 1, 1, 0, 0, 1, 0, 1, 1]) (Li := [(5, .addr), (7, .val), (9, .int .u8), (19, .int .u8)]) (Lo := []) (S := (fun x w => escrow_unworded_s1 K x.1 x.2.1 x.2.2.1 x.2.2.2.1 w)) (escrow_unworded_Eok K) (escrow_unworded_Rok K) rfl (Orc.cons (by kernel_rfl) (escrow_unworded_s2_se_ok K [(9, 10), (20, 40)] (by kernel_rfl)) (Orc.cons (by kernel_rfl) (escrow_unworded_s3_se_ok K [(9, 10), (20, 40)] (by kernel_rfl)) (Orc.nil _ _ _))) (by kernel_rfl) (fun _ _ => by kernel_rfl)
noncomputable def escrow_unworded_s1_se (K : Nat) : SE := stmtN [(5, .addr), (7, .val), (9, .int .u8), (19, .int .u8)] [] [(9, 10), (20, 40)] (fun x w => escrow_unworded_s1 K x.1 x.2.1 x.2.2.1 x.2.2.2.1 w)
theorem escrow_unworded_s1_se_ok (K : Nat) (R : Rg) (h : subRB [(9, 10), (20, 40)] R = true) : (escrow_unworded_s1_se K).Ok prog R (cd (bodyOf f32) [1, 1, 1, 1, 1, 0, 1, 0, 0, 1, 1, 0, 0, 1, 0, 1, 1]) := stmtN_ok (Li := [(5, .addr), (7, .val), (9, .int .u8), (19, .int .u8)]) (Lo := []) (S := (fun x w => escrow_unworded_s1 K x.1 x.2.1 x.2.2.1 x.2.2.2.1 w)) (escrow_unworded_s1_ok K) (subR_of h)
theorem escrow_unworded_l0_ok (K : Nat) (n : Nat) : StmtOk prog [(0, .str), (4, .addr), (5, .addr), (6, .addr), (7, .val), (12, .int .i64), (13, .int .i64)] [] [(2, .sl), (3, .bool)] [(2, 4), (8, 10), (13, 43)] ((fun n x w => escrow_unworded_l0 K n x.1 x.2.1 x.2.2.1 x.2.2.2.1 x.2.2.2.2.1 x.2.2.2.2.2.1 x.2.2.2.2.2.2.1 w) n) (.block 0 (.loop (cd (bodyOf f32) [1, 1, 1, 1, 1, 0, 1, 0, 0]))) :=
    mk_loop (O := tabL [([1, 1, 1, 1, 1, 0, 1, 0, 0, 1, 1, 0, 0, 1, 0, 1, 1], escrow_unworded_s1_se K), ([1, 1, 1, 1, 1, 0, 1, 0, 0, 1, 1, 0, 0, 1, 0, 1, 1, 0, 0, 1], escrow_unworded_s2_se K), ([1, 1, 1, 1, 1, 0, 1, 0, 0, 1, 1, 0, 0, 1, 0, 1, 1, 0, 1, 1, 0, 0], escrow_unworded_s3_se K)]) (root := (bodyOf f32)) (π := [1, 1, 1, 1, 1, 0, 1, 0, 0]) (id := 0) (Li := [(0, .str), (4, .addr), (5, .addr), (6, .addr), (7, .val), (12, .int .i64), (13, .int .i64)]) (Lo := []) (Lr := [(2, .sl), (3, .bool)]) (S := (fun n x w => escrow_unworded_l0 K n x.1 x.2.1 x.2.2.1 x.2.2.2.1 x.2.2.2.2.1 x.2.2.2.2.2.1 x.2.2.2.2.2.2.1 w)) (body := cd (bodyOf f32) [1, 1, 1, 1, 1, 0, 1, 0, 0]) (escrow_unworded_Eok K) (escrow_unworded_Rok K) rfl (Orc.cons (by kernel_rfl) (escrow_unworded_s1_se_ok K [(2, 4), (8, 10), (13, 43)] (by kernel_rfl)) (Orc.cons (by kernel_rfl) (escrow_unworded_s2_se_ok K [(2, 4), (8, 10), (13, 43)] (by kernel_rfl)) (Orc.cons (by kernel_rfl) (escrow_unworded_s3_se_ok K [(2, 4), (8, 10), (13, 43)] (by kernel_rfl)) (Orc.nil _ _ _)))) (by kernel_rfl) (fun _ _ => by kernel_rfl) (fun _ _ _ => by kernel_rfl) n
noncomputable def escrow_unworded_l0_se (K : Nat) : SE := stmt [(0, .str), (4, .addr), (5, .addr), (6, .addr), (7, .val), (12, .int .i64), (13, .int .i64)] [] [(2, .sl), (3, .bool)] [(2, 4), (8, 10), (13, 43)] (fun x w => escrow_unworded_l0 K K x.1 x.2.1 x.2.2.1 x.2.2.2.1 x.2.2.2.2.1 x.2.2.2.2.2.1 x.2.2.2.2.2.2.1 w)
theorem escrow_unworded_l0_se_ok (K : Nat) (R : Rg) (h : subRB [(2, 4), (8, 10), (13, 43)] R = true) : (escrow_unworded_l0_se K).Ok prog R (.block 0 (.loop (cd (bodyOf f32) [1, 1, 1, 1, 1, 0, 1, 0, 0]))) := stmt_ok (Li := [(0, .str), (4, .addr), (5, .addr), (6, .addr), (7, .val), (12, .int .i64), (13, .int .i64)]) (Lo := []) (Lr := [(2, .sl), (3, .bool)]) (S := (fun x w => escrow_unworded_l0 K K x.1 x.2.1 x.2.2.1 x.2.2.2.1 x.2.2.2.2.1 x.2.2.2.2.2.1 x.2.2.2.2.2.2.1 w)) (escrow_unworded_l0_ok K K) (subR_of h)
theorem escrow_unworded_facts : FunFacts prog 32 f32 (bodyOf f32) [(0, .str)] [(0, 47)] := ⟨func32, by kernel_rfl, by kernel_rfl, by kernel_rfl, by kernel_rfl, by kernel_rfl⟩
theorem escrow_unworded_calls (K : Nat) (x : TT [(0, .str)]) (w : World) (y : TR [.sl, .bool]) (w2 : World) (h : escrow_unworded K x.1 w = some (y, w2)) : Calls prog 32 (encA [(0, .str)] x).toArray w (fun e w3 => e = .returned (resV (encR [.sl, .bool] y)) ∧ w3 = w2) :=
    mk_fun (O := tabL [([1, 1, 1, 1, 1, 0, 1], escrow_unworded_l0_se K), ([1, 1, 1, 1, 1, 0, 1, 0, 0, 1, 1, 0, 0, 1, 0, 1, 1], escrow_unworded_s1_se K), ([1, 1, 1, 1, 1, 0, 1, 0, 0, 1, 1, 0, 0, 1, 0, 1, 1, 0, 0, 1], escrow_unworded_s2_se K), ([1, 1, 1, 1, 1, 0, 1, 0, 0, 1, 1, 0, 0, 1, 0, 1, 1, 0, 1, 1, 0, 0], escrow_unworded_s3_se K)]) (Lp := [(0, .str)]) (Rt := [.sl, .bool]) (S := (fun x w => escrow_unworded K x.1 w)) (escrow_unworded_Eok K) (escrow_unworded_Rok K) rfl escrow_unworded_facts (Orc.cons (by kernel_rfl) (escrow_unworded_l0_se_ok K [(0, 47)] (by kernel_rfl)) (Orc.cons (by kernel_rfl) (escrow_unworded_s1_se_ok K [(0, 47)] (by kernel_rfl)) (Orc.cons (by kernel_rfl) (escrow_unworded_s2_se_ok K [(0, 47)] (by kernel_rfl)) (Orc.cons (by kernel_rfl) (escrow_unworded_s3_se_ok K [(0, 47)] (by kernel_rfl)) (Orc.nil _ _ _))))) (fun _ _ => by kernel_rfl) x w y w2 h
noncomputable def escrow_unworded_ce (K : Nat) : CE := funE [(0, .str)] [.sl, .bool] (fun x w => escrow_unworded K x.1 w)
theorem escrow_unworded_ok (K : Nat) : (escrow_unworded_ce K).Ok prog 32 := funE_ok (Rt := [.sl, .bool]) (S := (fun x w => escrow_unworded K x.1 w)) escrow_unworded_facts fun x w y w2 h => escrow_unworded_calls K x w y w2 h

noncomputable def rijndael_Times_R (K : Nat) : List (Nat × RE) := []
theorem rijndael_Times_Rok (K : Nat) : REnv.Ok prog (tab (rijndael_Times_R K)) := (REnv.nil _)
noncomputable def rijndael_Times_s1 (K : Nat) (a0 : Int) (p5 : Int) (a11 : Bool) : Option (Out (Int × Unit) (Int × Unit)) :=
  if a11 = true then (some (.norm ((bits .xor .u8 p5 a0), ()))) else (some (.norm (p5, ())))
noncomputable def rijndael_Times_l0_b (K : Nat) (rec : Int → Int → Int → Option (Out (Int × Unit) (Int × Unit))) (a0 : Int) (b1 : Int) (p5 : Int) : Option (Out (Int × Unit) (Int × Unit)) :=
  if (b1 != 0) = true then ((rijndael_Times_s1 K a0 p5 ((bits .and .u8 b1 1) != 0)).bind fun y_1 =>
  (match y_1 with
  | .norm z_2n => (if ((bits .and .u8 a0 128) != 0) = true then (rec (bits .xor .u8 (IntKind.u8.wrap (a0 * 2 ^ 1)) 27) (Int.fdiv b1 (2 ^ 1)) z_2n.1) else (rec (IntKind.u8.wrap (a0 * 2 ^ 1)) (Int.fdiv b1 (2 ^ 1)) z_2n.1))
  | .ret z_2r => (some (.ret (z_2r.1, ()))))) else (some (.norm (p5, ())))
noncomputable def rijndael_Times_l0 (K : Nat) (n : Nat) : Int → Int → Int → Option (Out (Int × Unit) (Int × Unit)) := iter (fun _ _ _ => none) (rijndael_Times_l0_b K) n
/-- coffer/rijndael.Times -/
noncomputable def rijndael_Times (K : Nat) (a0 : Int) (b1 : Int) : Option (Int × Unit) :=
  (rijndael_Times_l0 K K a0 b1 0).bind fun y_3 =>
  (match y_3 with
  | .norm z_4n => (some (z_4n.1, ()))
  | .ret z_4r => (some (z_4r.1, ())))
theorem rijndael_Times_s1_ok (K : Nat) : StmtQOk prog [(0, .int .u8), (5, .int .u8), (11, .bool)] [(5, .int .u8)] [(4, .int .u8)] [(5, 6), (12, 15)] (fun x w => rijndael_Times_s1 K x.1 x.2.1 x.2.2.1) (cd (bodyOf f41) [1, 1, 0, 0, 0, 1, 0, 0, 1]) :=
    mk_stmtQ (O := tabL []) (root := (bodyOf f41)) (π := [1, 1, 0, 0, 0, 1, 0, 0, 1]) (Li := [(0, .int .u8), (5, .int .u8), (11, .bool)]) (Lo := [(5, .int .u8)]) (Lr := [(4, .int .u8)]) (S := (fun x w => rijndael_Times_s1 K x.1 x.2.1 x.2.2.1)) (rijndael_Times_Rok K) (OrcQ.nil _ _ _) (by kernel_rfl) (fun _ _ => by kernel_rfl)
noncomputable def rijndael_Times_s1_se (K : Nat) : SQ := stmtQ [(0, .int .u8), (5, .int .u8), (11, .bool)] [(5, .int .u8)] [(4, .int .u8)] [(5, 6), (12, 15)] (fun x w => rijndael_Times_s1 K x.1 x.2.1 x.2.2.1)
theorem rijndael_Times_s1_se_ok (K : Nat) (R : Rg) (h : subRB [(5, 6), (12, 15)] R = true) : (rijndael_Times_s1_se K).Ok prog R (cd (bodyOf f41) [1, 1, 0, 0, 0, 1, 0, 0, 1]) := stmtQ_ok (Li := [(0, .int .u8), (5, .int .u8), (11, .bool)]) (Lo := [(5, .int .u8)]) (Lr := [(4, .int .u8)]) (S := (fun x w => rijndael_Times_s1 K x.1 x.2.1 x.2.2.1)) (rijndael_Times_s1_ok K) (subR_of h)
theorem rijndael_Times_l0_ok (K : Nat) (n : Nat) : StmtQOk prog [(0, .int .u8), (1, .int .u8), (5, .int .u8)] [(5, .int .u8)] [(4, .int .u8)] [(0, 2), (5, 25)] ((fun n x w => rijndael_Times_l0 K n x.1 x.2.1 x.2.2.1) n) (.block 0 (.loop (cd (bodyOf f41) [1, 1, 0, 0, 0]))) :=
    mk_loopQ (O := tabL [([1, 1, 0, 0, 0, 1, 0, 0, 1], rijndael_Times_s1_se K)]) (root := (bodyOf f41)) (π := [1, 1, 0, 0, 0]) (id := 0) (Li := [(0, .int .u8), (1, .int .u8), (5, .int .u8)]) (Lo := [(5, .int .u8)]) (Lr := [(4, .int .u8)]) (S := (fun n x w => rijndael_Times_l0 K n x.1 x.2.1 x.2.2.1)) (body := cd (bodyOf f41) [1, 1, 0, 0, 0]) (rijndael_Times_Rok K) (OrcQ.cons (by kernel_rfl) (rijndael_Times_s1_se_ok K [(0, 2), (5, 25)] (by kernel_rfl)) (OrcQ.nil _ _ _)) (by kernel_rfl) (fun _ _ => by kernel_rfl) (fun _ _ _ => by kernel_rfl) n
noncomputable def rijndael_Times_l0_se (K : Nat) : SQ := stmtQ [(0, .int .u8), (1, .int .u8), (5, .int .u8)] [(5, .int .u8)] [(4, .int .u8)] [(0, 2), (5, 25)] (fun x w => rijndael_Times_l0 K K x.1 x.2.1 x.2.2.1)
theorem rijndael_Times_l0_se_ok (K : Nat) (R : Rg) (h : subRB [(0, 2), (5, 25)] R = true) : (rijndael_Times_l0_se K).Ok prog R (.block 0 (.loop (cd (bodyOf f41) [1, 1, 0, 0, 0]))) := stmtQ_ok (Li := [(0, .int .u8), (1, .int .u8), (5, .int .u8)]) (Lo := [(5, .int .u8)]) (Lr := [(4, .int .u8)]) (S := (fun x w => rijndael_Times_l0 K K x.1 x.2.1 x.2.2.1)) (rijndael_Times_l0_ok K K) (subR_of h)
theorem rijndael_Times_facts : FunFacts prog 41 f41 (bodyOf f41) [(0, .int .u8), (1, .int .u8)] [(0, 26)] := ⟨func41, by kernel_rfl, by kernel_rfl, by kernel_rfl, by kernel_rfl, by kernel_rfl⟩
theorem rijndael_Times_calls (K : Nat) (x : TT [(0, .int .u8), (1, .int .u8)]) (w : World) (y : TR [.int .u8]) (h : rijndael_Times K x.1 x.2.1 = some y) : Calls prog 41 (encA [(0, .int .u8), (1, .int .u8)] x).toArray w (fun e w3 => e = .returned (resV (encR [.int .u8] y)) ∧ w3 = w) :=
    mk_funQ (O := tabL [([1, 1, 0], rijndael_Times_l0_se K), ([1, 1, 0, 0, 0, 1, 0, 0, 1], rijndael_Times_s1_se K)]) (Lp := [(0, .int .u8), (1, .int .u8)]) (Rt := [.int .u8]) (S := (fun x w => rijndael_Times K x.1 x.2.1)) (rijndael_Times_Rok K) rijndael_Times_facts (OrcQ.cons (by kernel_rfl) (rijndael_Times_l0_se_ok K [(0, 26)] (by kernel_rfl)) (OrcQ.cons (by kernel_rfl) (rijndael_Times_s1_se_ok K [(0, 26)] (by kernel_rfl)) (OrcQ.nil _ _ _))) (fun _ _ => by kernel_rfl) x w y h
noncomputable def rijndael_Times_re (K : Nat) : RE := funR [(0, .int .u8), (1, .int .u8)] [.int .u8] (fun x w => rijndael_Times K x.1 x.2.1)
theorem rijndael_Times_ok (K : Nat) : (rijndael_Times_re K).Ok prog 41 := funR_ok (Rt := [.int .u8]) (S := (fun x w => rijndael_Times K x.1 x.2.1)) rijndael_Times_facts fun x w y h => rijndael_Times_calls K x w y h

noncomputable def escrow_power_R (K : Nat) : List (Nat × RE) := [(41, rijndael_Times_re K)]
theorem escrow_power_Rok (K : Nat) : REnv.Ok prog (tab (escrow_power_R K)) := (REnv.cons (rijndael_Times_ok K) (REnv.nil _))
noncomputable def escrow_power_l0_b (K : Nat) (rec : Int → Int → Int → Option (Out (Int × Unit) (Int × Unit))) (v3 : Int) (a5 : Int) (a6 : Int) : Option (Out (Int × Unit) (Int × Unit)) :=
  if (decide (a6 < a5)) = true then ((rijndael_Times K v3 3).bind fun r_1 =>
  rec r_1.1 a5 (IntKind.i64.wrap (a6 + 1))) else (some (.norm (v3, ())))
noncomputable def escrow_power_l0 (K : Nat) (n : Nat) : Int → Int → Int → Option (Out (Int × Unit) (Int × Unit)) := iter (fun _ _ _ => none) (escrow_power_l0_b K) n
/-- coffer/escrow.power -/
noncomputable def escrow_power (K : Nat) (n0 : Int) : Option (Int × Unit) :=
  (escrow_power_l0 K K 1 (Int.tmod n0 255) 0).bind fun y_2 =>
  (match y_2 with
  | .norm z_3n => (some (z_3n.1, ()))
  | .ret z_3r => (some (z_3r.1, ())))
theorem escrow_power_l0_ok (K : Nat) (n : Nat) : StmtQOk prog [(3, .int .u8), (5, .int .i64), (6, .int .i64)] [(3, .int .u8)] [(2, .int .u8)] [(3, 4), (6, 11)] ((fun n x w => escrow_power_l0 K n x.1 x.2.1 x.2.2.1) n) (.block 0 (.loop (cd (bodyOf f43) [1, 1, 0, 1, 0, 0]))) :=
    mk_loopQ (O := tabL []) (root := (bodyOf f43)) (π := [1, 1, 0, 1, 0, 0]) (id := 0) (Li := [(3, .int .u8), (5, .int .i64), (6, .int .i64)]) (Lo := [(3, .int .u8)]) (Lr := [(2, .int .u8)]) (S := (fun n x w => escrow_power_l0 K n x.1 x.2.1 x.2.2.1)) (body := cd (bodyOf f43) [1, 1, 0, 1, 0, 0]) (escrow_power_Rok K) (OrcQ.nil _ _ _) (by kernel_rfl) (fun _ _ => by kernel_rfl) (fun _ _ _ => by kernel_rfl) n
noncomputable def escrow_power_l0_se (K : Nat) : SQ := stmtQ [(3, .int .u8), (5, .int .i64), (6, .int .i64)] [(3, .int .u8)] [(2, .int .u8)] [(3, 4), (6, 11)] (fun x w => escrow_power_l0 K K x.1 x.2.1 x.2.2.1)
theorem escrow_power_l0_se_ok (K : Nat) (R : Rg) (h : subRB [(3, 4), (6, 11)] R = true) : (escrow_power_l0_se K).Ok prog R (.block 0 (.loop (cd (bodyOf f43) [1, 1, 0, 1, 0, 0]))) := stmtQ_ok (Li := [(3, .int .u8), (5, .int .i64), (6, .int .i64)]) (Lo := [(3, .int .u8)]) (Lr := [(2, .int .u8)]) (S := (fun x w => escrow_power_l0 K K x.1 x.2.1 x.2.2.1)) (escrow_power_l0_ok K K) (subR_of h)
theorem escrow_power_facts : FunFacts prog 43 f43 (bodyOf f43) [(0, .int .i64)] [(0, 12)] := ⟨func43, by kernel_rfl, by kernel_rfl, by kernel_rfl, by kernel_rfl, by kernel_rfl⟩
theorem escrow_power_calls (K : Nat) (x : TT [(0, .int .i64)]) (w : World) (y : TR [.int .u8]) (h : escrow_power K x.1 = some y) : Calls prog 43 (encA [(0, .int .i64)] x).toArray w (fun e w3 => e = .returned (resV (encR [.int .u8] y)) ∧ w3 = w) :=
    mk_funQ (O := tabL [([1, 1, 0, 1], escrow_power_l0_se K)]) (Lp := [(0, .int .i64)]) (Rt := [.int .u8]) (S := (fun x w => escrow_power K x.1)) (escrow_power_Rok K) escrow_power_facts (OrcQ.cons (by kernel_rfl) (escrow_power_l0_se_ok K [(0, 12)] (by kernel_rfl)) (OrcQ.nil _ _ _)) (fun _ _ => by kernel_rfl) x w y h
noncomputable def escrow_power_re (K : Nat) : RE := funR [(0, .int .i64)] [.int .u8] (fun x w => escrow_power K x.1)
theorem escrow_power_ok (K : Nat) : (escrow_power_re K).Ok prog 43 := funR_ok (Rt := [.int .u8]) (S := (fun x w => escrow_power K x.1)) escrow_power_facts fun x w y h => escrow_power_calls K x w y h

noncomputable def escrow_summed_E (K : Nat) : List (Nat × CE) := []
theorem escrow_summed_Eok (K : Nat) : Env.Ok prog (tab (escrow_summed_E K)) := (Env.nil _)
noncomputable def escrow_summed_R (K : Nat) : List (Nat × RE) := [(43, escrow_power_re K), (41, rijndael_Times_re K)]
theorem escrow_summed_Rok (K : Nat) : REnv.Ok prog (tab (escrow_summed_R K)) := (REnv.cons (escrow_power_ok K) (REnv.cons (rijndael_Times_ok K) (REnv.nil _)))
noncomputable def escrow_summed_l1_b (K : Nat) (rec : Sl → Addr → Addr → Int → Int → Int → Sl → Int → Int → World → Option ((Unit) × World)) (b0 : Sl) (a2 : Addr) (s3 : Addr) (j4 : Int) (x5 : Int) (a8 : Int) (a13 : Sl) (a14 : Int) (a15 : Int) (w : World) : Option ((Unit) × World) :=
  if (decide (a15 < a14)) = true then ((a13.a).bind fun p_6 =>
  if (0 : Int) ≤ a15 ∧ a15 < ((a13.len : Nat) : Int) then ((ldI .u8 (p_6.add ((Int.toNat a15) * 1)) w).bind fun v_7 =>
  if (0 : Int) ≤ j4 ∧ j4 < ((4 : Nat) : Int) then ((ldI .u8 (s3.add ((Int.toNat j4) * 1)) w).bind fun v_8 =>
  (rijndael_Times K v_8 x5).bind fun r_9 =>
  if (0 : Int) ≤ j4 ∧ j4 < ((4 : Nat) : Int) then ((stC (s3.add ((Int.toNat j4) * 1)) (.int .u8 (bits .xor .u8 r_9.1 v_7)) w).bind fun w_10 =>
  rec b0 a2 s3 j4 x5 a8 a13 a14 (IntKind.i64.wrap (a15 + 1)) w_10) else none) else none) else none) else (some ((), w))
noncomputable def escrow_summed_l1 (K : Nat) (n : Nat) : Sl → Addr → Addr → Int → Int → Int → Sl → Int → Int → World → Option ((Unit) × World) := iter (fun _ _ _ _ _ _ _ _ _ _ => none) (escrow_summed_l1_b K) n
noncomputable def escrow_summed_l0_b (K : Nat) (rec : Sl → Addr → Addr → Int → World → Option ((Unit) × World)) (b0 : Sl) (a2 : Addr) (s3 : Addr) (a8 : Int) (w : World) : Option ((Unit) × World) :=
  if (decide (a8 < 4)) = true then ((escrow_power K a8).bind fun r_5 =>
  bnd (escrow_summed_l1 K K b0 a2 s3 a8 r_5.1 a8 b0 ((b0.len : Nat) : Int) 0 w) fun y_11 w_12 =>
  rec b0 a2 s3 (IntKind.i64.wrap (a8 + 1)) w_12) else (some ((), w))
noncomputable def escrow_summed_l0 (K : Nat) (n : Nat) : Sl → Addr → Addr → Int → World → Option ((Unit) × World) := iter (fun _ _ _ _ _ => none) (escrow_summed_l0_b K) n
/-- coffer/escrow.summed -/
noncomputable def escrow_summed (K : Nat) (b0 : Sl) (w : World) : Option (((Array Value) × Unit) × World) :=
  bnd (newB z71 71 w) fun p_1 w_2 =>
  bnd (newB z71 71 w_2) fun s_3 w_4 =>
  bnd (escrow_summed_l0 K K b0 p_1 s_3 0 w_4) fun y_13 w_14 =>
  (ldA 4 s_3 w_14).bind fun v_15 =>
  if (v_15).size = 4 then ((stA p_1 v_15 w_14).bind fun w_16 =>
  (ldA 4 p_1 w_16).bind fun res_17 =>
  some ((res_17, ()), w_16)) else none
theorem escrow_summed_l1_ok (K : Nat) (n : Nat) : StmtNOk prog [(0, .sl), (2, .addr), (3, .addr), (4, .int .i64), (5, .int .u8), (8, .int .i64), (13, .sl), (14, .int .i64), (15, .int .i64)] [] [(7, 8), (15, 29)] ((fun n x w => escrow_summed_l1 K n x.1 x.2.1 x.2.2.1 x.2.2.2.1 x.2.2.2.2.1 x.2.2.2.2.2.1 x.2.2.2.2.2.2.1 x.2.2.2.2.2.2.2.1 x.2.2.2.2.2.2.2.2.1 w) n) (.block 2 (.loop (cd (bodyOf f40) [1, 1, 0, 1, 0, 0, 1, 1, 0, 0, 1, 1, 1, 0, 0]))) :=
    mk_loopN (O := tabL []) (root := (bodyOf f40)) (π := [1, 1, 0, 1, 0, 0, 1, 1, 0, 0, 1, 1, 1, 0, 0]) (id := 2) (Li := [(0, .sl), (2, .addr), (3, .addr), (4, .int .i64), (5, .int .u8), (8, .int .i64), (13, .sl), (14, .int .i64), (15, .int .i64)]) (Lo := []) (S := (fun n x w => escrow_summed_l1 K n x.1 x.2.1 x.2.2.1 x.2.2.2.1 x.2.2.2.2.1 x.2.2.2.2.2.1 x.2.2.2.2.2.2.1 x.2.2.2.2.2.2.2.1 x.2.2.2.2.2.2.2.2.1 w)) (body := cd (bodyOf f40) [1, 1, 0, 1, 0, 0, 1, 1, 0, 0, 1, 1, 1, 0, 0]) (escrow_summed_Eok K) (escrow_summed_Rok K) rfl (Orc.nil _ _ _) (by kernel_rfl) (fun _ _ => by kernel_rfl) (fun _ _ _ => by kernel_rfl) n
noncomputable def escrow_summed_l1_se (K : Nat) : SE := stmtN [(0, .sl), (2, .addr), (3, .addr), (4, .int .i64), (5, .int .u8), (8, .int .i64), (13, .sl), (14, .int .i64), (15, .int .i64)] [] [(7, 8), (15, 29)] (fun x w => escrow_summed_l1 K K x.1 x.2.1 x.2.2.1 x.2.2.2.1 x.2.2.2.2.1 x.2.2.2.2.2.1 x.2.2.2.2.2.2.1 x.2.2.2.2.2.2.2.1 x.2.2.2.2.2.2.2.2.1 w)
theorem escrow_summed_l1_se_ok (K : Nat) (R : Rg) (h : subRB [(7, 8), (15, 29)] R = true) : (escrow_summed_l1_se K).Ok prog R (.block 2 (.loop (cd (bodyOf f40) [1, 1, 0, 1, 0, 0, 1, 1, 0, 0, 1, 1, 1, 0, 0]))) := stmtN_ok (Li := [(0, .sl), (2, .addr), (3, .addr), (4, .int .i64), (5, .int .u8), (8, .int .i64), (13, .sl), (14, .int .i64), (15, .int .i64)]) (Lo := []) (S := (fun x w => escrow_summed_l1 K K x.1 x.2.1 x.2.2.1 x.2.2.2.1 x.2.2.2.2.1 x.2.2.2.2.2.1 x.2.2.2.2.2.2.1 x.2.2.2.2.2.2.2.1 x.2.2.2.2.2.2.2.2.1 w)) (escrow_summed_l1_ok K K) (subR_of h)
theorem escrow_summed_l0_ok (K : Nat) (n : Nat) : StmtNOk prog [(0, .sl), (2, .addr), (3, .addr), (8, .int .i64)] [] [(4, 6), (7, 30)] ((fun n x w => escrow_summed_l0 K n x.1 x.2.1 x.2.2.1 x.2.2.2.1 w) n) (.block 0 (.loop (cd (bodyOf f40) [1, 1, 0, 1, 0, 0]))) :=
    mk_loopN (O := tabL [([1, 1, 0, 1, 0, 0, 1, 1, 0, 0, 1, 1, 1], escrow_summed_l1_se K)]) (root := (bodyOf f40)) (π := [1, 1, 0, 1, 0, 0]) (id := 0) (Li := [(0, .sl), (2, .addr), (3, .addr), (8, .int .i64)]) (Lo := []) (S := (fun n x w => escrow_summed_l0 K n x.1 x.2.1 x.2.2.1 x.2.2.2.1 w)) (body := cd (bodyOf f40) [1, 1, 0, 1, 0, 0]) (escrow_summed_Eok K) (escrow_summed_Rok K) rfl (Orc.cons (by kernel_rfl) (escrow_summed_l1_se_ok K [(4, 6), (7, 30)] (by kernel_rfl)) (Orc.nil _ _ _)) (by kernel_rfl) (fun _ _ => by kernel_rfl) (fun _ _ _ => by kernel_rfl) n
noncomputable def escrow_summed_l0_se (K : Nat) : SE := stmtN [(0, .sl), (2, .addr), (3, .addr), (8, .int .i64)] [] [(4, 6), (7, 30)] (fun x w => escrow_summed_l0 K K x.1 x.2.1 x.2.2.1 x.2.2.2.1 w)
theorem escrow_summed_l0_se_ok (K : Nat) (R : Rg) (h : subRB [(4, 6), (7, 30)] R = true) : (escrow_summed_l0_se K).Ok prog R (.block 0 (.loop (cd (bodyOf f40) [1, 1, 0, 1, 0, 0]))) := stmtN_ok (Li := [(0, .sl), (2, .addr), (3, .addr), (8, .int .i64)]) (Lo := []) (S := (fun x w => escrow_summed_l0 K K x.1 x.2.1 x.2.2.1 x.2.2.2.1 w)) (escrow_summed_l0_ok K K) (subR_of h)
theorem escrow_summed_facts : FunFacts prog 40 f40 (bodyOf f40) [(0, .sl)] [(0, 31)] := ⟨func40, by kernel_rfl, by kernel_rfl, by kernel_rfl, by kernel_rfl, by kernel_rfl⟩
theorem escrow_summed_calls (K : Nat) (x : TT [(0, .sl)]) (w : World) (y : TR [.agg]) (w2 : World) (h : escrow_summed K x.1 w = some (y, w2)) : Calls prog 40 (encA [(0, .sl)] x).toArray w (fun e w3 => e = .returned (resV (encR [.agg] y)) ∧ w3 = w2) :=
    mk_fun (O := tabL [([1, 1, 0, 1], escrow_summed_l0_se K), ([1, 1, 0, 1, 0, 0, 1, 1, 0, 0, 1, 1, 1], escrow_summed_l1_se K)]) (Lp := [(0, .sl)]) (Rt := [.agg]) (S := (fun x w => escrow_summed K x.1 w)) (escrow_summed_Eok K) (escrow_summed_Rok K) rfl escrow_summed_facts (Orc.cons (by kernel_rfl) (escrow_summed_l0_se_ok K [(0, 31)] (by kernel_rfl)) (Orc.cons (by kernel_rfl) (escrow_summed_l1_se_ok K [(0, 31)] (by kernel_rfl)) (Orc.nil _ _ _))) (fun _ _ => by kernel_rfl) x w y w2 h
noncomputable def escrow_summed_ce (K : Nat) : CE := funE [(0, .sl)] [.agg] (fun x w => escrow_summed K x.1 w)
theorem escrow_summed_ok (K : Nat) : (escrow_summed_ce K).Ok prog 40 := funE_ok (Rt := [.agg]) (S := (fun x w => escrow_summed K x.1 w)) escrow_summed_facts fun x w y w2 h => escrow_summed_calls K x w y w2 h

noncomputable def escrow_inverse_R (K : Nat) : List (Nat × RE) := [(41, rijndael_Times_re K)]
theorem escrow_inverse_Rok (K : Nat) : REnv.Ok prog (tab (escrow_inverse_R K)) := (REnv.cons (rijndael_Times_ok K) (REnv.nil _))
noncomputable def escrow_inverse_l0_b (K : Nat) (rec : Int → Int → Int → Option (Out (Int × Unit) (Int × Unit))) (b0 : Int) (v3 : Int) (a4 : Int) : Option (Out (Int × Unit) (Int × Unit)) :=
  if (decide (a4 < 7)) = true then ((rijndael_Times K b0 b0).bind fun r_1 =>
  (rijndael_Times K v3 r_1.1).bind fun r_2 =>
  rec r_1.1 r_2.1 (IntKind.i64.wrap (a4 + 1))) else (some (.norm (v3, ())))
noncomputable def escrow_inverse_l0 (K : Nat) (n : Nat) : Int → Int → Int → Option (Out (Int × Unit) (Int × Unit)) := iter (fun _ _ _ => none) (escrow_inverse_l0_b K) n
/-- coffer/escrow.inverse -/
noncomputable def escrow_inverse (K : Nat) (b0 : Int) : Option (Int × Unit) :=
  (escrow_inverse_l0 K K b0 1 0).bind fun y_3 =>
  (match y_3 with
  | .norm z_4n => (some (z_4n.1, ()))
  | .ret z_4r => (some (z_4r.1, ())))
theorem escrow_inverse_l0_ok (K : Nat) (n : Nat) : StmtQOk prog [(0, .int .u8), (3, .int .u8), (4, .int .i64)] [(3, .int .u8)] [(2, .int .u8)] [(0, 1), (3, 13)] ((fun n x w => escrow_inverse_l0 K n x.1 x.2.1 x.2.2.1) n) (.block 0 (.loop (cd (bodyOf f47) [1, 1, 0, 1, 0, 0]))) :=
    mk_loopQ (O := tabL []) (root := (bodyOf f47)) (π := [1, 1, 0, 1, 0, 0]) (id := 0) (Li := [(0, .int .u8), (3, .int .u8), (4, .int .i64)]) (Lo := [(3, .int .u8)]) (Lr := [(2, .int .u8)]) (S := (fun n x w => escrow_inverse_l0 K n x.1 x.2.1 x.2.2.1)) (body := cd (bodyOf f47) [1, 1, 0, 1, 0, 0]) (escrow_inverse_Rok K) (OrcQ.nil _ _ _) (by kernel_rfl) (fun _ _ => by kernel_rfl) (fun _ _ _ => by kernel_rfl) n
noncomputable def escrow_inverse_l0_se (K : Nat) : SQ := stmtQ [(0, .int .u8), (3, .int .u8), (4, .int .i64)] [(3, .int .u8)] [(2, .int .u8)] [(0, 1), (3, 13)] (fun x w => escrow_inverse_l0 K K x.1 x.2.1 x.2.2.1)
theorem escrow_inverse_l0_se_ok (K : Nat) (R : Rg) (h : subRB [(0, 1), (3, 13)] R = true) : (escrow_inverse_l0_se K).Ok prog R (.block 0 (.loop (cd (bodyOf f47) [1, 1, 0, 1, 0, 0]))) := stmtQ_ok (Li := [(0, .int .u8), (3, .int .u8), (4, .int .i64)]) (Lo := [(3, .int .u8)]) (Lr := [(2, .int .u8)]) (S := (fun x w => escrow_inverse_l0 K K x.1 x.2.1 x.2.2.1)) (escrow_inverse_l0_ok K K) (subR_of h)
theorem escrow_inverse_facts : FunFacts prog 47 f47 (bodyOf f47) [(0, .int .u8)] [(0, 14)] := ⟨func47, by kernel_rfl, by kernel_rfl, by kernel_rfl, by kernel_rfl, by kernel_rfl⟩
theorem escrow_inverse_calls (K : Nat) (x : TT [(0, .int .u8)]) (w : World) (y : TR [.int .u8]) (h : escrow_inverse K x.1 = some y) : Calls prog 47 (encA [(0, .int .u8)] x).toArray w (fun e w3 => e = .returned (resV (encR [.int .u8] y)) ∧ w3 = w) :=
    mk_funQ (O := tabL [([1, 1, 0, 1], escrow_inverse_l0_se K)]) (Lp := [(0, .int .u8)]) (Rt := [.int .u8]) (S := (fun x w => escrow_inverse K x.1)) (escrow_inverse_Rok K) escrow_inverse_facts (OrcQ.cons (by kernel_rfl) (escrow_inverse_l0_se_ok K [(0, 14)] (by kernel_rfl)) (OrcQ.nil _ _ _)) (fun _ _ => by kernel_rfl) x w y h
noncomputable def escrow_inverse_re (K : Nat) : RE := funR [(0, .int .u8)] [.int .u8] (fun x w => escrow_inverse K x.1)
theorem escrow_inverse_ok (K : Nat) : (escrow_inverse_re K).Ok prog 47 := funR_ok (Rt := [.int .u8]) (S := (fun x w => escrow_inverse K x.1)) escrow_inverse_facts fun x w y h => escrow_inverse_calls K x w y h

noncomputable def escrow_over_R (K : Nat) : List (Nat × RE) := [(47, escrow_inverse_re K), (41, rijndael_Times_re K)]
theorem escrow_over_Rok (K : Nat) : REnv.Ok prog (tab (escrow_over_R K)) := (REnv.cons (escrow_inverse_ok K) (REnv.cons (rijndael_Times_ok K) (REnv.nil _)))
/-- coffer/escrow.over -/
noncomputable def escrow_over (K : Nat) (a0 : Int) (b1 : Int) : Option (Int × Unit) :=
  (escrow_inverse K b1).bind fun r_1 =>
  (rijndael_Times K a0 r_1.1).bind fun r_2 =>
  some (r_2.1, ())
theorem escrow_over_facts : FunFacts prog 42 f42 (bodyOf f42) [(0, .int .u8), (1, .int .u8)] [(0, 9)] := ⟨func42, by kernel_rfl, by kernel_rfl, by kernel_rfl, by kernel_rfl, by kernel_rfl⟩
theorem escrow_over_calls (K : Nat) (x : TT [(0, .int .u8), (1, .int .u8)]) (w : World) (y : TR [.int .u8]) (h : escrow_over K x.1 x.2.1 = some y) : Calls prog 42 (encA [(0, .int .u8), (1, .int .u8)] x).toArray w (fun e w3 => e = .returned (resV (encR [.int .u8] y)) ∧ w3 = w) :=
    mk_funQ (O := tabL []) (Lp := [(0, .int .u8), (1, .int .u8)]) (Rt := [.int .u8]) (S := (fun x w => escrow_over K x.1 x.2.1)) (escrow_over_Rok K) escrow_over_facts (OrcQ.nil _ _ _) (fun _ _ => by kernel_rfl) x w y h
noncomputable def escrow_over_re (K : Nat) : RE := funR [(0, .int .u8), (1, .int .u8)] [.int .u8] (fun x w => escrow_over K x.1 x.2.1)
theorem escrow_over_ok (K : Nat) : (escrow_over_re K).Ok prog 42 := funR_ok (Rt := [.int .u8]) (S := (fun x w => escrow_over K x.1 x.2.1)) escrow_over_facts fun x w y h => escrow_over_calls K x w y h

noncomputable def slices_Clone_byte_byte_E : List (Nat × CE) := []
theorem slices_Clone_byte_byte_Eok : Env.Ok prog (tab (slices_Clone_byte_byte_E)) := (Env.nil _)
noncomputable def slices_Clone_byte_byte_R : List (Nat × RE) := []
theorem slices_Clone_byte_byte_Rok : REnv.Ok prog (tab (slices_Clone_byte_byte_R)) := (REnv.nil _)
/-- slices.Clone[[]byte,byte] -/
noncomputable def slices_Clone_byte_byte (s0 : Sl) (w : World) : Option ((Sl × Unit) × World) :=
  if s0.a.isNone = true then (some ((⟨none, 0, 0⟩, ()), w)) else (bnd (bldS prog 25 0 #[] w) fun s_1 w_2 =>
  bnd (apd prog 25 25 (.slice s_1.a s_1.len s_1.cap) (.slice s0.a s0.len s0.cap) w_2) fun s_3 w_4 =>
  some ((s_3, ()), w_4))
theorem slices_Clone_byte_byte_facts : FunFacts prog 44 f44 (bodyOf f44) [(0, .sl)] [(0, 8)] := ⟨func44, by kernel_rfl, by kernel_rfl, by kernel_rfl, by kernel_rfl, by kernel_rfl⟩
theorem slices_Clone_byte_byte_calls (x : TT [(0, .sl)]) (w : World) (y : TR [.sl]) (w2 : World) (h : slices_Clone_byte_byte x.1 w = some (y, w2)) : Calls prog 44 (encA [(0, .sl)] x).toArray w (fun e w3 => e = .returned (resV (encR [.sl] y)) ∧ w3 = w2) :=
    mk_fun (O := tabL []) (Lp := [(0, .sl)]) (Rt := [.sl]) (S := (fun x w => slices_Clone_byte_byte x.1 w)) (slices_Clone_byte_byte_Eok) (slices_Clone_byte_byte_Rok) rfl slices_Clone_byte_byte_facts (Orc.nil _ _ _) (fun _ _ => by kernel_rfl) x w y w2 h
noncomputable def slices_Clone_byte_byte_ce : CE := funE [(0, .sl)] [.sl] (fun x w => slices_Clone_byte_byte x.1 w)
theorem slices_Clone_byte_byte_ok : (slices_Clone_byte_byte_ce).Ok prog 44 := funE_ok (Rt := [.sl]) (S := (fun x w => slices_Clone_byte_byte x.1 w)) slices_Clone_byte_byte_facts fun x w y w2 h => slices_Clone_byte_byte_calls x w y w2 h

end Go.Sh
