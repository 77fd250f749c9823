/- Texts of this claim, put together: Sh0, Sh1 -/
import Derived.Test.YtgdoljnhhabghaaDoorAllExtllkmko
import Derived.Test.YtgdoljnhhabghaaDoorProg
/- What functions of the program do, as Lean functions; that the machine does just that. Printed by shal.py, a program of this claim's writer. -/
set_option maxRecDepth 100000
set_option linter.unusedVariables false
namespace Go.Sh
open Go.Fw Go.Proofs.Tryd
def z34 : Array Value := (List.replicate 3 (.int .i64 0) ++ List.replicate 2 (.slice none 0 0) : List Value).toArray
def z56 : Array Value := (List.replicate 3 (.int .i64 0) ++ List.replicate 2 (.slice none 0 0) : List Value).toArray
def z74 : Array Value := (List.replicate 3 (.int .i64 0) ++ [.nilFunc] : List Value).toArray
def z100 : Array Value := Array.replicate 64 (.int .u32 0)
def z102 : Array Value := Array.replicate 8 (.int .u32 0)
def z103 : Array Value := Array.replicate 80 (.int .u64 0)
def z105 : Array Value := Array.replicate 8 (.int .u64 0)
def z106 : Array Value := Array.replicate 128 (.int .u8 0)
def z108 : Array Value := (List.replicate 3 (.int .i64 0) ++ [.nilFunc] ++ [.int .i64 0] ++ List.replicate 9 (.int .u64 0) ++ List.replicate 128 (.int .u8 0) : List Value).toArray
def z110 : Array Value := (List.replicate 3 (.int .i64 0) ++ [.nilFunc] ++ [.int .i64 0] ++ List.replicate 9 (.int .u64 0) ++ List.replicate 128 (.int .u8 0) ++ List.replicate 3 (.int .i64 0) ++ [.nilFunc] ++ [.int .i64 0] ++ List.replicate 9 (.int .u64 0) ++ List.replicate 128 (.int .u8 0) : List Value).toArray
def z122 : Array Value := Array.replicate 256 (.int .u8 0)

noncomputable def law06_good_E : List (Nat × CE) := []
theorem law06_good_Eok : Env.Ok prog (tab (law06_good_E)) := (Env.nil _)
noncomputable def law06_good_R : List (Nat × RE) := []
theorem law06_good_Rok : REnv.Ok prog (tab (law06_good_R)) := (REnv.nil _)
/-- coffer/cofferlaw06.good -/
noncomputable def law06_good (c0 : Array Value) (w : World) : Option ((Bool × Unit) × World) :=
  bnd (newB c0 24 w) fun p_1 w_2 =>
  (ldI .i64 (p_1.add 0) w_2).bind fun v_3 =>
  if (v_3 == 224) = true then ((ldI .i64 (p_1.add 1) w_2).bind fun v_4 =>
  if (decide (v_4 ≥ 1)) = true then ((ldI .i64 (p_1.add 1) w_2).bind fun v_5 =>
  if (decide (v_5 ≤ 16777216)) = true then ((ldS (p_1.add 2) w_2).bind fun v_6 =>
  if (decide (((v_6.len : Nat) : Int) ≥ 16)) = true then ((ldS (p_1.add 2) w_2).bind fun v_7 =>
  if (decide (((v_7.len : Nat) : Int) ≤ 65536)) = true then ((ldS (p_1.add 3) w_2).bind fun v_8 =>
  if (decide (((v_8.len : Nat) : Int) ≤ 65536)) = true then ((ldS (p_1.add 4) w_2).bind fun v_9 =>
  some (((decide (((v_9.len : Nat) : Int) ≤ 65536)), ()), w_2)) else (some ((false, ()), w_2))) else (some ((false, ()), w_2))) else (some ((false, ()), w_2))) else (some ((false, ()), w_2))) else (some ((false, ()), w_2))) else ((ldI .i64 (p_1.add 0) w_2).bind fun v_10 =>
  if (v_10 == 256) = true then ((ldI .i64 (p_1.add 1) w_2).bind fun v_11 =>
  if (decide (v_11 ≥ 1)) = true then ((ldI .i64 (p_1.add 1) w_2).bind fun v_12 =>
  if (decide (v_12 ≤ 16777216)) = true then ((ldS (p_1.add 2) w_2).bind fun v_13 =>
  if (decide (((v_13.len : Nat) : Int) ≥ 16)) = true then ((ldS (p_1.add 2) w_2).bind fun v_14 =>
  if (decide (((v_14.len : Nat) : Int) ≤ 65536)) = true then ((ldS (p_1.add 3) w_2).bind fun v_15 =>
  if (decide (((v_15.len : Nat) : Int) ≤ 65536)) = true then ((ldS (p_1.add 4) w_2).bind fun v_16 =>
  some (((decide (((v_16.len : Nat) : Int) ≤ 65536)), ()), w_2)) else (some ((false, ()), w_2))) else (some ((false, ()), w_2))) else (some ((false, ()), w_2))) else (some ((false, ()), w_2))) else (some ((false, ()), w_2))) else ((ldI .i64 (p_1.add 0) w_2).bind fun v_17 =>
  if (v_17 == 384) = true then ((ldI .i64 (p_1.add 1) w_2).bind fun v_18 =>
  if (decide (v_18 ≥ 1)) = true then ((ldI .i64 (p_1.add 1) w_2).bind fun v_19 =>
  if (decide (v_19 ≤ 16777216)) = true then ((ldS (p_1.add 2) w_2).bind fun v_20 =>
  if (decide (((v_20.len : Nat) : Int) ≥ 16)) = true then ((ldS (p_1.add 2) w_2).bind fun v_21 =>
  if (decide (((v_21.len : Nat) : Int) ≤ 65536)) = true then ((ldS (p_1.add 3) w_2).bind fun v_22 =>
  if (decide (((v_22.len : Nat) : Int) ≤ 65536)) = true then ((ldS (p_1.add 4) w_2).bind fun v_23 =>
  some (((decide (((v_23.len : Nat) : Int) ≤ 65536)), ()), w_2)) else (some ((false, ()), w_2))) else (some ((false, ()), w_2))) else (some ((false, ()), w_2))) else (some ((false, ()), w_2))) else (some ((false, ()), w_2))) else ((ldI .i64 (p_1.add 0) w_2).bind fun v_24 =>
  if (v_24 == 512) = true then ((ldI .i64 (p_1.add 1) w_2).bind fun v_25 =>
  if (decide (v_25 ≥ 1)) = true then ((ldI .i64 (p_1.add 1) w_2).bind fun v_26 =>
  if (decide (v_26 ≤ 16777216)) = true then ((ldS (p_1.add 2) w_2).bind fun v_27 =>
  if (decide (((v_27.len : Nat) : Int) ≥ 16)) = true then ((ldS (p_1.add 2) w_2).bind fun v_28 =>
  if (decide (((v_28.len : Nat) : Int) ≤ 65536)) = true then ((ldS (p_1.add 3) w_2).bind fun v_29 =>
  if (decide (((v_29.len : Nat) : Int) ≤ 65536)) = true then ((ldS (p_1.add 4) w_2).bind fun v_30 =>
  some (((decide (((v_30.len : Nat) : Int) ≤ 65536)), ()), w_2)) else (some ((false, ()), w_2))) else (some ((false, ()), w_2))) else (some ((false, ()), w_2))) else (some ((false, ()), w_2))) else (some ((false, ()), w_2))) else (some ((false, ()), w_2)))))
theorem law06_good_facts : FunFacts prog 5 f5 (bodyOf f5) [(0, .agg)] [(0, 55)] := ⟨func5, by kernel_rfl, by kernel_rfl, by kernel_rfl, by kernel_rfl, by kernel_rfl⟩
theorem law06_good_calls (x : TT [(0, .agg)]) (w : World) (y : TR [.bool]) (w2 : World) (h : law06_good x.1 w = some (y, w2)) : Calls prog 5 (encA [(0, .agg)] x).toArray w (fun e w3 => e = .returned (resV (encR [.bool] y)) ∧ w3 = w2) :=
    mk_fun (O := tabL []) (Lp := [(0, .agg)]) (Rt := [.bool]) (S := (fun x w => law06_good x.1 w)) (law06_good_Eok) (law06_good_Rok) rfl law06_good_facts (Orc.nil _ _ _) (fun _ _ => by kernel_rfl) x w y w2 h
noncomputable def law06_good_ce : CE := funE [(0, .agg)] [.bool] (fun x w => law06_good x.1 w)
theorem law06_good_ok : (law06_good_ce).Ok prog 5 := funE_ok (Rt := [.bool]) (S := (fun x w => law06_good x.1 w)) law06_good_facts fun x w y w2 h => law06_good_calls x w y w2 h

noncomputable def digest_kindOf_E : List (Nat × CE) := []
theorem digest_kindOf_Eok : Env.Ok prog (tab (digest_kindOf_E)) := (Env.nil _)
noncomputable def digest_kindOf_R : List (Nat × RE) := []
theorem digest_kindOf_Rok : REnv.Ok prog (tab (digest_kindOf_R)) := (REnv.nil _)
noncomputable def digest_kindOf_s0 (a4 : Int) (a5 : Bool) (w : World) : Option ((Bool × Unit) × World) :=
  if a5 = true then (some ((true, ()), w)) else (some (((a4 == 256), ()), w))
noncomputable def digest_kindOf_s1 (a4 : Int) (a11 : Bool) (w : World) : Option ((Bool × Unit) × World) :=
  if a11 = true then (some ((true, ()), w)) else (some (((a4 == 512), ()), w))
/-- coffer/digest.kindOf -/
noncomputable def digest_kindOf (hash0 : Int) (w : World) : Option (((Array Value) × Bool × Unit) × World) :=
  bnd (newB z74 74 w) fun p_1 w_2 =>
  bnd (digest_kindOf_s0 hash0 (hash0 == 224) w_2) fun y_3 w_4 =>
  if y_3.1 = true then ((prog.built 74 [(0, (.int .i64 (IntKind.i64.wrap (Int.tdiv hash0 8)))), (1, (.int .i64 64)), (2, (.int .i64 4)), (3, (.func (.func 46) #[] #[]))]).bind fun cs_5 =>
  if (cs_5).size = 4 then ((stA p_1 cs_5 w_4).bind fun w_6 =>
  (ldA 4 p_1 w_6).bind fun res_7 =>
  some ((res_7, true, ()), w_6)) else none) else (bnd (digest_kindOf_s1 hash0 (hash0 == 384) w_4) fun y_8 w_9 =>
  if y_8.1 = true then ((prog.built 74 [(0, (.int .i64 (IntKind.i64.wrap (Int.tdiv hash0 8)))), (1, (.int .i64 128)), (2, (.int .i64 8)), (3, (.func (.func 47) #[] #[]))]).bind fun cs_10 =>
  if (cs_10).size = 4 then ((stA p_1 cs_10 w_9).bind fun w_11 =>
  (ldA 4 p_1 w_11).bind fun res_12 =>
  some ((res_12, true, ()), w_11)) else none) else ((prog.built 74 []).bind fun cs_13 =>
  if (cs_13).size = 4 then ((stA p_1 cs_13 w_9).bind fun w_14 =>
  (ldA 4 p_1 w_14).bind fun res_15 =>
  some ((res_15, false, ()), w_14)) else none))
theorem digest_kindOf_s0_ok : StmtNOk prog [(4, .int .i64), (5, .bool)] [(5, .bool)] [(5, 6), (7, 8)] (fun x w => digest_kindOf_s0 x.1 x.2.1 w) (cd (bodyOf f36) [1, 0, 1, 0, 0, 1]) :=
    mk_stmtN (O := tabL []) (root := (bodyOf f36)) (π := [1, 0, 1, 0, 0, 1]) (Li := [(4, .int .i64), (5, .bool)]) (Lo := [(5, .bool)]) (S := (fun x w => digest_kindOf_s0 x.1 x.2.1 w)) (digest_kindOf_Eok) (digest_kindOf_Rok) rfl (Orc.nil _ _ _) (by kernel_rfl) (fun _ _ => by kernel_rfl)
noncomputable def digest_kindOf_s0_se : SE := stmtN [(4, .int .i64), (5, .bool)] [(5, .bool)] [(5, 6), (7, 8)] (fun x w => digest_kindOf_s0 x.1 x.2.1 w)
theorem digest_kindOf_s0_se_ok (R : Rg) (h : subRB [(5, 6), (7, 8)] R = true) : (digest_kindOf_s0_se).Ok prog R (cd (bodyOf f36) [1, 0, 1, 0, 0, 1]) := stmtN_ok (Li := [(4, .int .i64), (5, .bool)]) (Lo := [(5, .bool)]) (S := (fun x w => digest_kindOf_s0 x.1 x.2.1 w)) (digest_kindOf_s0_ok) (subR_of h)
theorem digest_kindOf_s1_ok : StmtNOk prog [(4, .int .i64), (11, .bool)] [(11, .bool)] [(11, 12), (13, 14)] (fun x w => digest_kindOf_s1 x.1 x.2.1 w) (cd (bodyOf f36) [1, 0, 1, 0, 1, 1, 0, 1]) :=
    mk_stmtN (O := tabL []) (root := (bodyOf f36)) (π := [1, 0, 1, 0, 1, 1, 0, 1]) (Li := [(4, .int .i64), (11, .bool)]) (Lo := [(11, .bool)]) (S := (fun x w => digest_kindOf_s1 x.1 x.2.1 w)) (digest_kindOf_Eok) (digest_kindOf_Rok) rfl (Orc.nil _ _ _) (by kernel_rfl) (fun _ _ => by kernel_rfl)
noncomputable def digest_kindOf_s1_se : SE := stmtN [(4, .int .i64), (11, .bool)] [(11, .bool)] [(11, 12), (13, 14)] (fun x w => digest_kindOf_s1 x.1 x.2.1 w)
theorem digest_kindOf_s1_se_ok (R : Rg) (h : subRB [(11, 12), (13, 14)] R = true) : (digest_kindOf_s1_se).Ok prog R (cd (bodyOf f36) [1, 0, 1, 0, 1, 1, 0, 1]) := stmtN_ok (Li := [(4, .int .i64), (11, .bool)]) (Lo := [(11, .bool)]) (S := (fun x w => digest_kindOf_s1 x.1 x.2.1 w)) (digest_kindOf_s1_ok) (subR_of h)
theorem digest_kindOf_facts : FunFacts prog 36 f36 (bodyOf f36) [(0, .int .i64)] [(0, 18)] := ⟨func36, by kernel_rfl, by kernel_rfl, by kernel_rfl, by kernel_rfl, by kernel_rfl⟩
theorem digest_kindOf_calls (x : TT [(0, .int .i64)]) (w : World) (y : TR [.agg, .bool]) (w2 : World) (h : digest_kindOf x.1 w = some (y, w2)) : Calls prog 36 (encA [(0, .int .i64)] x).toArray w (fun e w3 => e = .returned (resV (encR [.agg, .bool] y)) ∧ w3 = w2) :=
    mk_fun (O := tabL [([1, 0, 1, 0, 0, 1], digest_kindOf_s0_se), ([1, 0, 1, 0, 1, 1, 0, 1], digest_kindOf_s1_se)]) (Lp := [(0, .int .i64)]) (Rt := [.agg, .bool]) (S := (fun x w => digest_kindOf x.1 w)) (digest_kindOf_Eok) (digest_kindOf_Rok) rfl digest_kindOf_facts (Orc.cons (by kernel_rfl) (digest_kindOf_s0_se_ok [(0, 18)] (by kernel_rfl)) (Orc.cons (by kernel_rfl) (digest_kindOf_s1_se_ok [(0, 18)] (by kernel_rfl)) (Orc.nil _ _ _))) (fun _ _ => by kernel_rfl) x w y w2 h
noncomputable def digest_kindOf_ce : CE := funE [(0, .int .i64)] [.agg, .bool] (fun x w => digest_kindOf x.1 w)
theorem digest_kindOf_ok : (digest_kindOf_ce).Ok prog 36 := funE_ok (Rt := [.agg, .bool]) (S := (fun x w => digest_kindOf x.1 w)) digest_kindOf_facts fun x w y w2 h => digest_kindOf_calls x w y w2 h

noncomputable def digest_Size_E : List (Nat × CE) := [(36, digest_kindOf_ce)]
theorem digest_Size_Eok : Env.Ok prog (tab (digest_Size_E)) := (Env.cons (digest_kindOf_ok) (Env.nil _))
noncomputable def digest_Size_R : List (Nat × RE) := []
theorem digest_Size_Rok : REnv.Ok prog (tab (digest_Size_R)) := (REnv.nil _)
/-- coffer/digest.Size -/
noncomputable def digest_Size (hash0 : Int) (w : World) : Option ((Int × Unit) × World) :=
  bnd (digest_kindOf hash0 w) fun r_1 w_2 =>
  bnd (newB z74 74 w_2) fun k_3 w_4 =>
  if (r_1.1).size = 4 then ((stA k_3 r_1.1 w_4).bind fun w_5 =>
  (ldI .i64 (k_3.add 0) w_5).bind fun v_6 =>
  some ((v_6, ()), w_5)) else none
theorem digest_Size_facts : FunFacts prog 16 f16 (bodyOf f16) [(0, .int .i64)] [(0, 12)] := ⟨func16, by kernel_rfl, by kernel_rfl, by kernel_rfl, by kernel_rfl, by kernel_rfl⟩
theorem digest_Size_calls (x : TT [(0, .int .i64)]) (w : World) (y : TR [.int .i64]) (w2 : World) (h : digest_Size x.1 w = some (y, w2)) : Calls prog 16 (encA [(0, .int .i64)] x).toArray w (fun e w3 => e = .returned (resV (encR [.int .i64] y)) ∧ w3 = w2) :=
    mk_fun (O := tabL []) (Lp := [(0, .int .i64)]) (Rt := [.int .i64]) (S := (fun x w => digest_Size x.1 w)) (digest_Size_Eok) (digest_Size_Rok) rfl digest_Size_facts (Orc.nil _ _ _) (fun _ _ => by kernel_rfl) x w y w2 h
noncomputable def digest_Size_ce : CE := funE [(0, .int .i64)] [.int .i64] (fun x w => digest_Size x.1 w)
theorem digest_Size_ok : (digest_Size_ce).Ok prog 16 := funE_ok (Rt := [.int .i64]) (S := (fun x w => digest_Size x.1 w)) digest_Size_facts fun x w y w2 h => digest_Size_calls x w y w2 h

noncomputable def spring_fit_R : List (Nat × RE) := []
theorem spring_fit_Rok : REnv.Ok prog (tab (spring_fit_R)) := (REnv.nil _)
/-- coffer/spring.fit -/
noncomputable def spring_fit (entropy0 : Sl) : Option (Bool × Unit) :=
  if (decide (((entropy0.len : Nat) : Int) ≥ 16)) = true then (some ((decide (((entropy0.len : Nat) : Int) ≤ 65536)), ())) else (some (false, ()))
theorem spring_fit_facts : FunFacts prog 17 f17 (bodyOf f17) [(0, .sl)] [(0, 11)] := ⟨func17, by kernel_rfl, by kernel_rfl, by kernel_rfl, by kernel_rfl, by kernel_rfl⟩
theorem spring_fit_calls (x : TT [(0, .sl)]) (w : World) (y : TR [.bool]) (h : spring_fit x.1 = some y) : Calls prog 17 (encA [(0, .sl)] x).toArray w (fun e w3 => e = .returned (resV (encR [.bool] y)) ∧ w3 = w) :=
    mk_funQ (O := tabL []) (Lp := [(0, .sl)]) (Rt := [.bool]) (S := (fun x w => spring_fit x.1)) (spring_fit_Rok) spring_fit_facts (OrcQ.nil _ _ _) (fun _ _ => by kernel_rfl) x w y h
noncomputable def spring_fit_re : RE := funR [(0, .sl)] [.bool] (fun x w => spring_fit x.1)
theorem spring_fit_ok : (spring_fit_re).Ok prog 17 := funR_ok (Rt := [.bool]) (S := (fun x w => spring_fit x.1)) spring_fit_facts fun x w y h => spring_fit_calls x w y h

noncomputable def bits_Mul32_R : List (Nat × RE) := []
theorem bits_Mul32_Rok : REnv.Ok prog (tab (bits_Mul32_R)) := (REnv.nil _)
/-- math/bits.Mul32 -/
noncomputable def bits_Mul32 (x0 : Int) (y1 : Int) : Option (Int × Int × Unit) :=
  some ((IntKind.u32.wrap (Int.fdiv (IntKind.u64.wrap ((IntKind.u64.wrap x0) * (IntKind.u64.wrap y1))) (2 ^ 32))), (IntKind.u32.wrap (IntKind.u64.wrap ((IntKind.u64.wrap x0) * (IntKind.u64.wrap y1)))), ())
theorem bits_Mul32_facts : FunFacts prog 48 f48 (bodyOf f48) [(0, .int .u32), (1, .int .u32)] [(0, 17)] := ⟨func48, by kernel_rfl, by kernel_rfl, by kernel_rfl, by kernel_rfl, by kernel_rfl⟩
theorem bits_Mul32_calls (x : TT [(0, .int .u32), (1, .int .u32)]) (w : World) (y : TR [.int .u32, .int .u32]) (h : bits_Mul32 x.1 x.2.1 = some y) : Calls prog 48 (encA [(0, .int .u32), (1, .int .u32)] x).toArray w (fun e w3 => e = .returned (resV (encR [.int .u32, .int .u32] y)) ∧ w3 = w) :=
    mk_funQ (O := tabL []) (Lp := [(0, .int .u32), (1, .int .u32)]) (Rt := [.int .u32, .int .u32]) (S := (fun x w => bits_Mul32 x.1 x.2.1)) (bits_Mul32_Rok) bits_Mul32_facts (OrcQ.nil _ _ _) (fun _ _ => by kernel_rfl) x w y h
noncomputable def bits_Mul32_re : RE := funR [(0, .int .u32), (1, .int .u32)] [.int .u32, .int .u32] (fun x w => bits_Mul32 x.1 x.2.1)
theorem bits_Mul32_ok : (bits_Mul32_re).Ok prog 48 := funR_ok (Rt := [.int .u32, .int .u32]) (S := (fun x w => bits_Mul32 x.1 x.2.1)) bits_Mul32_facts fun x w y h => bits_Mul32_calls x w y h

noncomputable def bits_Mul64_R : List (Nat × RE) := []
theorem bits_Mul64_Rok : REnv.Ok prog (tab (bits_Mul64_R)) := (REnv.nil _)
/-- math/bits.Mul64 -/
noncomputable def bits_Mul64 (x0 : Int) (y1 : Int) : Option (Int × Int × Unit) :=
  some ((IntKind.u64.wrap ((IntKind.u64.wrap ((IntKind.u64.wrap ((Int.fdiv x0 (2 ^ 32)) * (Int.fdiv y1 (2 ^ 32)))) + (Int.fdiv (IntKind.u64.wrap ((IntKind.u64.wrap ((Int.fdiv x0 (2 ^ 32)) * (bits .and .u64 y1 4294967295))) + (Int.fdiv (IntKind.u64.wrap ((bits .and .u64 x0 4294967295) * (bits .and .u64 y1 4294967295))) (2 ^ 32)))) (2 ^ 32)))) + (Int.fdiv (IntKind.u64.wrap ((bits .and .u64 (IntKind.u64.wrap ((IntKind.u64.wrap ((Int.fdiv x0 (2 ^ 32)) * (bits .and .u64 y1 4294967295))) + (Int.fdiv (IntKind.u64.wrap ((bits .and .u64 x0 4294967295) * (bits .and .u64 y1 4294967295))) (2 ^ 32)))) 4294967295) + (IntKind.u64.wrap ((bits .and .u64 x0 4294967295) * (Int.fdiv y1 (2 ^ 32)))))) (2 ^ 32)))), (IntKind.u64.wrap (x0 * y1)), ())
theorem bits_Mul64_facts : FunFacts prog 49 f49 (bodyOf f49) [(0, .int .u64), (1, .int .u64)] [(0, 51)] := ⟨func49, by kernel_rfl, by kernel_rfl, by kernel_rfl, by kernel_rfl, by kernel_rfl⟩
theorem bits_Mul64_calls (x : TT [(0, .int .u64), (1, .int .u64)]) (w : World) (y : TR [.int .u64, .int .u64]) (h : bits_Mul64 x.1 x.2.1 = some y) : Calls prog 49 (encA [(0, .int .u64), (1, .int .u64)] x).toArray w (fun e w3 => e = .returned (resV (encR [.int .u64, .int .u64] y)) ∧ w3 = w) :=
    mk_funQ (O := tabL []) (Lp := [(0, .int .u64), (1, .int .u64)]) (Rt := [.int .u64, .int .u64]) (S := (fun x w => bits_Mul64 x.1 x.2.1)) (bits_Mul64_Rok) bits_Mul64_facts (OrcQ.nil _ _ _) (fun _ _ => by kernel_rfl) x w y h
noncomputable def bits_Mul64_re : RE := funR [(0, .int .u64), (1, .int .u64)] [.int .u64, .int .u64] (fun x w => bits_Mul64 x.1 x.2.1)
theorem bits_Mul64_ok : (bits_Mul64_re).Ok prog 49 := funR_ok (Rt := [.int .u64, .int .u64]) (S := (fun x w => bits_Mul64 x.1 x.2.1)) bits_Mul64_facts fun x w y h => bits_Mul64_calls x w y h

noncomputable def bits_Mul_R : List (Nat × RE) := [(49, bits_Mul64_re)]
theorem bits_Mul_Rok : REnv.Ok prog (tab (bits_Mul_R)) := (REnv.cons (bits_Mul64_ok) (REnv.nil _))
/-- math/bits.Mul -/
noncomputable def bits_Mul (x0 : Int) (y1 : Int) : Option (Int × Int × Unit) :=
  (bits_Mul64 x0 y1).bind fun r_1 =>
  some (r_1.1, r_1.2.1, ())
theorem bits_Mul_facts : FunFacts prog 37 f37 (bodyOf f37) [(0, .int .u64), (1, .int .u64)] [(0, 30)] := ⟨func37, by kernel_rfl, by kernel_rfl, by kernel_rfl, by kernel_rfl, by kernel_rfl⟩
theorem bits_Mul_calls (x : TT [(0, .int .u64), (1, .int .u64)]) (w : World) (y : TR [.int .u64, .int .u64]) (h : bits_Mul x.1 x.2.1 = some y) : Calls prog 37 (encA [(0, .int .u64), (1, .int .u64)] x).toArray w (fun e w3 => e = .returned (resV (encR [.int .u64, .int .u64] y)) ∧ w3 = w) :=
    mk_funQ (O := tabL []) (Lp := [(0, .int .u64), (1, .int .u64)]) (Rt := [.int .u64, .int .u64]) (S := (fun x w => bits_Mul x.1 x.2.1)) (bits_Mul_Rok) bits_Mul_facts (OrcQ.nil _ _ _) (fun _ _ => by kernel_rfl) x w y h
noncomputable def bits_Mul_re : RE := funR [(0, .int .u64), (1, .int .u64)] [.int .u64, .int .u64] (fun x w => bits_Mul x.1 x.2.1)
theorem bits_Mul_ok : (bits_Mul_re).Ok prog 37 := funR_ok (Rt := [.int .u64, .int .u64]) (S := (fun x w => bits_Mul x.1 x.2.1)) bits_Mul_facts fun x w y h => bits_Mul_calls x w y h

noncomputable def bytes_Repeat_E (K : Nat) : List (Nat × CE) := [(38, bytealg_MakeNoZero_ce)]
theorem bytes_Repeat_Eok (K : Nat) : Env.Ok prog (tab (bytes_Repeat_E K)) := (Env.cons (bytealg_MakeNoZero_ok) (Env.nil _))
noncomputable def bytes_Repeat_R (K : Nat) : List (Nat × RE) := [(37, bits_Mul_re)]
theorem bytes_Repeat_Rok (K : Nat) : REnv.Ok prog (tab (bytes_Repeat_R K)) := (REnv.cons (bits_Mul_ok) (REnv.nil _))
noncomputable def bytes_Repeat_s0 (K : Nat) (a16 : Bool) (w : World) : Option ((Unit) × World) :=
  if a16 = true then (none) else (some ((), w))
noncomputable def bytes_Repeat_s1 (K : Nat) (hi5 : Int) (lo6 : Int) (w : World) : Option ((Bool × Unit) × World) :=
  if (decide (hi5 > 0)) = true then (some ((true, ()), w)) else (some (((decide (lo6 > 9223372036854775807)), ()), w))
noncomputable def bytes_Repeat_s2 (K : Nat) (a32 : Bool) (w : World) : Option ((Unit) × World) :=
  if a32 = true then (none) else (some ((), w))
noncomputable def bytes_Repeat_s3 (K : Nat) (b0 : Sl) (chunkMax8 : Int) (a42 : Bool) (w : World) : Option ((Int × Unit) × World) :=
  if a42 = true then (if ((b0.len : Nat) : Int) ≠ 0 then (if ((IntKind.i64.wrap ((IntKind.i64.wrap (Int.tdiv 8192 ((b0.len : Nat) : Int))) * ((b0.len : Nat) : Int))) == 0) = true then (some ((((b0.len : Nat) : Int), ()), w)) else (some (((IntKind.i64.wrap ((IntKind.i64.wrap (Int.tdiv 8192 ((b0.len : Nat) : Int))) * ((b0.len : Nat) : Int))), ()), w))) else none) else (some ((chunkMax8, ()), w))
noncomputable def bytes_Repeat_l4_b (K : Nat) (rec : Int → Int → Sl → Int → World → Option ((Unit) × World)) (n7 : Int) (chunkMax8 : Int) (nb9 : Sl) (bp10 : Int) (w : World) : Option ((Unit) × World) :=
  if (decide (bp10 < n7)) = true then (if (0 : Int) ≤ bp10 ∧ bp10 ≤ ((nb9.len : Nat) : Int) then (if (0 : Int) ≤ (if chunkMax8 < bp10 then chunkMax8 else bp10) ∧ (if chunkMax8 < bp10 then chunkMax8 else bp10) ≤ ((nb9.cap : Nat) : Int) then (bnd (cpy prog 22 22 (.slice (sla nb9.a (Int.toNat (bp10)) nb9.cap 1) (nb9.len - (Int.toNat (bp10))) (nb9.cap - (Int.toNat (bp10)))) (.slice (sla nb9.a 0 nb9.cap 1) ((Int.toNat ((if chunkMax8 < bp10 then chunkMax8 else bp10))) - 0) (nb9.cap - 0)) w.drew) fun s_18 w_19 =>
  rec n7 chunkMax8 nb9 (IntKind.i64.wrap (bp10 + s_18)) w_19) else none) else none) else (some ((), w))
noncomputable def bytes_Repeat_l4 (K : Nat) (n : Nat) : Int → Int → Sl → Int → World → Option ((Unit) × World) := iter (fun _ _ _ _ _ => none) (bytes_Repeat_l4_b K) n
/-- bytes.Repeat -/
noncomputable def bytes_Repeat (K : Nat) (b0 : Sl) (count1 : Int) (w : World) : Option ((Sl × Unit) × World) :=
  if (count1 == 0) = true then (bnd (bldS prog 22 0 #[] w) fun s_1 w_2 =>
  some ((s_1, ()), w_2)) else (bnd (bytes_Repeat_s0 K (decide (count1 < 0)) w) fun y_3 w_4 =>
  (bits_Mul (IntKind.u64.wrap ((b0.len : Nat) : Int)) (IntKind.u64.wrap count1)).bind fun r_5 =>
  bnd (bytes_Repeat_s1 K r_5.1 r_5.2.1 w_4) fun y_6 w_7 =>
  bnd (bytes_Repeat_s2 K y_6.1 w_7) fun y_8 w_9 =>
  if (((b0.len : Nat) : Int) == 0) = true then (bnd (bldS prog 22 0 #[] w_9) fun s_10 w_11 =>
  some ((s_10, ()), w_11)) else (bnd (bytes_Repeat_s3 K b0 (IntKind.i64.wrap r_5.2.1) (decide ((IntKind.i64.wrap r_5.2.1) > 8192)) w_9) fun y_12 w_13 =>
  bnd (bytealg_MakeNoZero (IntKind.i64.wrap r_5.2.1) w_13) fun r_14 w_15 =>
  if (0 : Int) ≤ (IntKind.i64.wrap r_5.2.1) ∧ (IntKind.i64.wrap r_5.2.1) ≤ ((r_14.1.cap : Nat) : Int) then (if (0 : Int) ≤ (IntKind.i64.wrap r_5.2.1) ∧ (IntKind.i64.wrap r_5.2.1) ≤ (((Int.toNat ((IntKind.i64.wrap r_5.2.1))) : Nat) : Int) then (bnd (cpy prog 22 22 (.slice (sla r_14.1.a 0 (Int.toNat ((IntKind.i64.wrap r_5.2.1))) 1) ((Int.toNat ((IntKind.i64.wrap r_5.2.1))) - 0) ((Int.toNat ((IntKind.i64.wrap r_5.2.1))) - 0)) (.slice b0.a b0.len b0.cap) w_15) fun s_16 w_17 =>
  bnd (bytes_Repeat_l4 K K (IntKind.i64.wrap r_5.2.1) y_12.1 ⟨(sla r_14.1.a 0 (Int.toNat ((IntKind.i64.wrap r_5.2.1))) 1), ((Int.toNat ((IntKind.i64.wrap r_5.2.1))) - 0), ((Int.toNat ((IntKind.i64.wrap r_5.2.1))) - 0)⟩ s_16 w_17) fun y_20 w_21 =>
  some ((⟨(sla r_14.1.a 0 (Int.toNat ((IntKind.i64.wrap r_5.2.1))) 1), ((Int.toNat ((IntKind.i64.wrap r_5.2.1))) - 0), ((Int.toNat ((IntKind.i64.wrap r_5.2.1))) - 0)⟩, ()), w_21)) else none) else none))
theorem bytes_Repeat_s0_ok (K : Nat) : StmtNOk prog [(16, .bool)] [] [(17, 18)] (fun x w => bytes_Repeat_s0 K x.1 w) (cd (bodyOf f18) [1, 1, 0, 1]) :=
    mk_stmtN (O := tabL []) (root := (bodyOf f18)) (π := [1, 1, 0, 1]) (Li := [(16, .bool)]) (Lo := []) (S := (fun x w => bytes_Repeat_s0 K x.1 w)) (bytes_Repeat_Eok K) (bytes_Repeat_Rok K) rfl (Orc.nil _ _ _) (by kernel_rfl) (fun _ _ => by kernel_rfl)
noncomputable def bytes_Repeat_s0_se (K : Nat) : SE := stmtN [(16, .bool)] [] [(17, 18)] (fun x w => bytes_Repeat_s0 K x.1 w)
theorem bytes_Repeat_s0_se_ok (K : Nat) (R : Rg) (h : subRB [(17, 18)] R = true) : (bytes_Repeat_s0_se K).Ok prog R (cd (bodyOf f18) [1, 1, 0, 1]) := stmtN_ok (Li := [(16, .bool)]) (Lo := []) (S := (fun x w => bytes_Repeat_s0 K x.1 w)) (bytes_Repeat_s0_ok K) (subR_of h)
theorem bytes_Repeat_s1_ok (K : Nat) : StmtNOk prog [(5, .int .u64), (6, .int .u64)] [(32, .bool)] [(27, 33)] (fun x w => bytes_Repeat_s1 K x.1 x.2.1 w) (cd (bodyOf f18) [1, 1, 1, 1, 0, 0]) :=
    mk_stmtN (O := tabL []) (root := (bodyOf f18)) (π := [1, 1, 1, 1, 0, 0]) (Li := [(5, .int .u64), (6, .int .u64)]) (Lo := [(32, .bool)]) (S := (fun x w => bytes_Repeat_s1 K x.1 x.2.1 w)) (bytes_Repeat_Eok K) (bytes_Repeat_Rok K) rfl (Orc.nil _ _ _) (by kernel_rfl) (fun _ _ => by kernel_rfl)
noncomputable def bytes_Repeat_s1_se (K : Nat) : SE := stmtN [(5, .int .u64), (6, .int .u64)] [(32, .bool)] [(27, 33)] (fun x w => bytes_Repeat_s1 K x.1 x.2.1 w)
theorem bytes_Repeat_s1_se_ok (K : Nat) (R : Rg) (h : subRB [(27, 33)] R = true) : (bytes_Repeat_s1_se K).Ok prog R (cd (bodyOf f18) [1, 1, 1, 1, 0, 0]) := stmtN_ok (Li := [(5, .int .u64), (6, .int .u64)]) (Lo := [(32, .bool)]) (S := (fun x w => bytes_Repeat_s1 K x.1 x.2.1 w)) (bytes_Repeat_s1_ok K) (subR_of h)
theorem bytes_Repeat_s2_ok (K : Nat) : StmtNOk prog [(32, .bool)] [] [(33, 34)] (fun x w => bytes_Repeat_s2 K x.1 w) (cd (bodyOf f18) [1, 1, 1, 1, 0, 1]) :=
    mk_stmtN (O := tabL []) (root := (bodyOf f18)) (π := [1, 1, 1, 1, 0, 1]) (Li := [(32, .bool)]) (Lo := []) (S := (fun x w => bytes_Repeat_s2 K x.1 w)) (bytes_Repeat_Eok K) (bytes_Repeat_Rok K) rfl (Orc.nil _ _ _) (by kernel_rfl) (fun _ _ => by kernel_rfl)
noncomputable def bytes_Repeat_s2_se (K : Nat) : SE := stmtN [(32, .bool)] [] [(33, 34)] (fun x w => bytes_Repeat_s2 K x.1 w)
theorem bytes_Repeat_s2_se_ok (K : Nat) (R : Rg) (h : subRB [(33, 34)] R = true) : (bytes_Repeat_s2_se K).Ok prog R (cd (bodyOf f18) [1, 1, 1, 1, 0, 1]) := stmtN_ok (Li := [(32, .bool)]) (Lo := []) (S := (fun x w => bytes_Repeat_s2 K x.1 w)) (bytes_Repeat_s2_ok K) (subR_of h)
theorem bytes_Repeat_s3_ok (K : Nat) : StmtNOk prog [(0, .sl), (8, .int .i64), (42, .bool)] [(8, .int .i64)] [(8, 9), (43, 53)] (fun x w => bytes_Repeat_s3 K x.1 x.2.1 x.2.2.1 w) (cd (bodyOf f18) [1, 1, 1, 1, 1, 1, 1, 1, 0, 1]) :=
    mk_stmtN (O := tabL []) (root := (bodyOf f18)) (π := [1, 1, 1, 1, 1, 1, 1, 1, 0, 1]) (Li := [(0, .sl), (8, .int .i64), (42, .bool)]) (Lo := [(8, .int .i64)]) (S := (fun x w => bytes_Repeat_s3 K x.1 x.2.1 x.2.2.1 w)) (bytes_Repeat_Eok K) (bytes_Repeat_Rok K) rfl (Orc.nil _ _ _) (by kernel_rfl) (fun _ _ => by kernel_rfl)
noncomputable def bytes_Repeat_s3_se (K : Nat) : SE := stmtN [(0, .sl), (8, .int .i64), (42, .bool)] [(8, .int .i64)] [(8, 9), (43, 53)] (fun x w => bytes_Repeat_s3 K x.1 x.2.1 x.2.2.1 w)
theorem bytes_Repeat_s3_se_ok (K : Nat) (R : Rg) (h : subRB [(8, 9), (43, 53)] R = true) : (bytes_Repeat_s3_se K).Ok prog R (cd (bodyOf f18) [1, 1, 1, 1, 1, 1, 1, 1, 0, 1]) := stmtN_ok (Li := [(0, .sl), (8, .int .i64), (42, .bool)]) (Lo := [(8, .int .i64)]) (S := (fun x w => bytes_Repeat_s3 K x.1 x.2.1 x.2.2.1 w)) (bytes_Repeat_s3_ok K) (subR_of h)
theorem bytes_Repeat_l4_ok (K : Nat) (n : Nat) : StmtNOk prog [(7, .int .i64), (8, .int .i64), (9, .sl), (10, .int .i64)] [] [(10, 12), (61, 76)] ((fun n x w => bytes_Repeat_l4 K n x.1 x.2.1 x.2.2.1 x.2.2.2.1 w) n) (.block 0 (.loop (cd (bodyOf f18) [1, 1, 1, 1, 1, 1, 1, 1, 1, 1, 1, 0, 0, 0]))) :=
    mk_loopN (O := tabL []) (root := (bodyOf f18)) (π := [1, 1, 1, 1, 1, 1, 1, 1, 1, 1, 1, 0, 0, 0]) (id := 0) (Li := [(7, .int .i64), (8, .int .i64), (9, .sl), (10, .int .i64)]) (Lo := []) (S := (fun n x w => bytes_Repeat_l4 K n x.1 x.2.1 x.2.2.1 x.2.2.2.1 w)) (body := cd (bodyOf f18) [1, 1, 1, 1, 1, 1, 1, 1, 1, 1, 1, 0, 0, 0]) (bytes_Repeat_Eok K) (bytes_Repeat_Rok K) rfl (Orc.nil _ _ _) (by kernel_rfl) (fun _ _ => by kernel_rfl) (fun _ _ _ => by kernel_rfl) n
noncomputable def bytes_Repeat_l4_se (K : Nat) : SE := stmtN [(7, .int .i64), (8, .int .i64), (9, .sl), (10, .int .i64)] [] [(10, 12), (61, 76)] (fun x w => bytes_Repeat_l4 K K x.1 x.2.1 x.2.2.1 x.2.2.2.1 w)
theorem bytes_Repeat_l4_se_ok (K : Nat) (R : Rg) (h : subRB [(10, 12), (61, 76)] R = true) : (bytes_Repeat_l4_se K).Ok prog R (.block 0 (.loop (cd (bodyOf f18) [1, 1, 1, 1, 1, 1, 1, 1, 1, 1, 1, 0, 0, 0]))) := stmtN_ok (Li := [(7, .int .i64), (8, .int .i64), (9, .sl), (10, .int .i64)]) (Lo := []) (S := (fun x w => bytes_Repeat_l4 K K x.1 x.2.1 x.2.2.1 x.2.2.2.1 w)) (bytes_Repeat_l4_ok K K) (subR_of h)
theorem bytes_Repeat_facts : FunFacts prog 18 f18 (bodyOf f18) [(0, .sl), (1, .int .i64)] [(0, 77)] := ⟨func18, by kernel_rfl, by kernel_rfl, by kernel_rfl, by kernel_rfl, by kernel_rfl⟩
theorem bytes_Repeat_calls (K : Nat) (x : TT [(0, .sl), (1, .int .i64)]) (w : World) (y : TR [.sl]) (w2 : World) (h : bytes_Repeat K x.1 x.2.1 w = some (y, w2)) : Calls prog 18 (encA [(0, .sl), (1, .int .i64)] x).toArray w (fun e w3 => e = .returned (resV (encR [.sl] y)) ∧ w3 = w2) :=
    mk_fun (O := tabL [([1, 1, 0, 1], bytes_Repeat_s0_se K), ([1, 1, 1, 1, 0, 0], bytes_Repeat_s1_se K), ([1, 1, 1, 1, 0, 1], bytes_Repeat_s2_se K), ([1, 1, 1, 1, 1, 1, 1, 1, 0, 1], bytes_Repeat_s3_se K), ([1, 1, 1, 1, 1, 1, 1, 1, 1, 1, 1, 0], bytes_Repeat_l4_se K)]) (Lp := [(0, .sl), (1, .int .i64)]) (Rt := [.sl]) (S := (fun x w => bytes_Repeat K x.1 x.2.1 w)) (bytes_Repeat_Eok K) (bytes_Repeat_Rok K) rfl bytes_Repeat_facts (Orc.cons (by kernel_rfl) (bytes_Repeat_s0_se_ok K [(0, 77)] (by kernel_rfl)) (Orc.cons (by kernel_rfl) (bytes_Repeat_s1_se_ok K [(0, 77)] (by kernel_rfl)) (Orc.cons (by kernel_rfl) (bytes_Repeat_s2_se_ok K [(0, 77)] (by kernel_rfl)) (Orc.cons (by kernel_rfl) (bytes_Repeat_s3_se_ok K [(0, 77)] (by kernel_rfl)) (Orc.cons (by kernel_rfl) (bytes_Repeat_l4_se_ok K [(0, 77)] (by kernel_rfl)) (Orc.nil _ _ _)))))) (fun _ _ => by kernel_rfl) x w y w2 h
noncomputable def bytes_Repeat_ce (K : Nat) : CE := funE [(0, .sl), (1, .int .i64)] [.sl] (fun x w => bytes_Repeat K x.1 x.2.1 w)
theorem bytes_Repeat_ok (K : Nat) : (bytes_Repeat_ce K).Ok prog 18 := funE_ok (Rt := [.sl]) (S := (fun x w => bytes_Repeat K x.1 x.2.1 w)) bytes_Repeat_facts fun x w y w2 h => bytes_Repeat_calls K x w y w2 h

noncomputable def spring_Spring_update_1_R : List (Nat × RE) := []
theorem spring_Spring_update_1_Rok : REnv.Ok prog (tab (spring_Spring_update_1_R)) := (REnv.nil _)
/-- (*coffer/spring.Spring).update$1 -/
noncomputable def spring_Spring_update_1 (p0 : Sl) : Option (Bool × Unit) :=
  some ((decide (((p0.len : Nat) : Int) > 0)), ())
theorem spring_Spring_update_1_facts : FunFacts prog 39 f39 (bodyOf f39) [(0, .sl)] [(0, 6)] := ⟨func39, by kernel_rfl, by kernel_rfl, by kernel_rfl, by kernel_rfl, by kernel_rfl⟩
theorem spring_Spring_update_1_calls (x : TT [(0, .sl)]) (w : World) (y : TR [.bool]) (h : spring_Spring_update_1 x.1 = some y) : Calls prog 39 (encA [(0, .sl)] x).toArray w (fun e w3 => e = .returned (resV (encR [.bool] y)) ∧ w3 = w) :=
    mk_funQ (O := tabL []) (Lp := [(0, .sl)]) (Rt := [.bool]) (S := (fun x w => spring_Spring_update_1 x.1)) (spring_Spring_update_1_Rok) spring_Spring_update_1_facts (OrcQ.nil _ _ _) (fun _ _ => by kernel_rfl) x w y h
noncomputable def spring_Spring_update_1_re : RE := funR [(0, .sl)] [.bool] (fun x w => spring_Spring_update_1 x.1)
theorem spring_Spring_update_1_ok : (spring_Spring_update_1_re).Ok prog 39 := funR_ok (Rt := [.bool]) (S := (fun x w => spring_Spring_update_1 x.1)) spring_Spring_update_1_facts fun x w y h => spring_Spring_update_1_calls x w y h

noncomputable def spring_Spring_Draw_1_R : List (Nat × RE) := []
theorem spring_Spring_Draw_1_Rok : REnv.Ok prog (tab (spring_Spring_Draw_1_R)) := (REnv.nil _)
/-- (*coffer/spring.Spring).Draw$1 -/
noncomputable def spring_Spring_Draw_1 (p0 : Sl) : Option (Bool × Unit) :=
  some ((decide (((p0.len : Nat) : Int) > 0)), ())
theorem spring_Spring_Draw_1_facts : FunFacts prog 22 f22 (bodyOf f22) [(0, .sl)] [(0, 6)] := ⟨func22, by kernel_rfl, by kernel_rfl, by kernel_rfl, by kernel_rfl, by kernel_rfl⟩
theorem spring_Spring_Draw_1_calls (x : TT [(0, .sl)]) (w : World) (y : TR [.bool]) (h : spring_Spring_Draw_1 x.1 = some y) : Calls prog 22 (encA [(0, .sl)] x).toArray w (fun e w3 => e = .returned (resV (encR [.bool] y)) ∧ w3 = w) :=
    mk_funQ (O := tabL []) (Lp := [(0, .sl)]) (Rt := [.bool]) (S := (fun x w => spring_Spring_Draw_1 x.1)) (spring_Spring_Draw_1_Rok) spring_Spring_Draw_1_facts (OrcQ.nil _ _ _) (fun _ _ => by kernel_rfl) x w y h
noncomputable def spring_Spring_Draw_1_re : RE := funR [(0, .sl)] [.bool] (fun x w => spring_Spring_Draw_1 x.1)
theorem spring_Spring_Draw_1_ok : (spring_Spring_Draw_1_re).Ok prog 22 := funR_ok (Rt := [.bool]) (S := (fun x w => spring_Spring_Draw_1 x.1)) spring_Spring_Draw_1_facts fun x w y h => spring_Spring_Draw_1_calls x w y h

noncomputable def slices_IndexFunc_byte_byte_E (K : Nat) : List (Nat × CE) := [(22, ceR spring_Spring_Draw_1_re), (39, ceR spring_Spring_update_1_re)]
theorem slices_IndexFunc_byte_byte_Eok (K : Nat) : Env.Ok prog (tab (slices_IndexFunc_byte_byte_E K)) := (Env.cons (ceR_ok (spring_Spring_Draw_1_ok)) (Env.cons (ceR_ok (spring_Spring_update_1_ok)) (Env.nil _)))
noncomputable def slices_IndexFunc_byte_byte_R (K : Nat) : List (Nat × RE) := []
theorem slices_IndexFunc_byte_byte_Rok (K : Nat) : REnv.Ok prog (tab (slices_IndexFunc_byte_byte_R K)) := (REnv.nil _)
noncomputable def slices_IndexFunc_byte_byte_l0_b (K : Nat) (rec : Sl → Value → Int → Int → World → Option ((Out (Unit) (Int × Unit)) × World)) (s0 : Sl) (f1 : Value) (a7 : Int) (a8 : Int) (w : World) : Option ((Out (Unit) (Int × Unit)) × World) :=
  if (decide (a8 < a7)) = true then ((s0.a).bind fun p_1 =>
  if (0 : Int) ≤ a8 ∧ a8 < ((s0.len : Nat) : Int) then ((ldS (p_1.add ((Int.toNat a8) * 1)) w).bind fun v_2 =>
  dyn (tab (slices_IndexFunc_byte_byte_E K)) f1 [(.slice v_2.a v_2.len v_2.cap)] w fun v_3 w_4 =>
  (asB v_3).bind fun v_5 =>
  if v_5 = true then (some (.ret (a8, ()), w_4)) else (rec s0 f1 a7 (IntKind.i64.wrap (a8 + 1)) w_4)) else none) else (some (.norm (), w))
noncomputable def slices_IndexFunc_byte_byte_l0 (K : Nat) (n : Nat) : Sl → Value → Int → Int → World → Option ((Out (Unit) (Int × Unit)) × World) := iter (fun _ _ _ _ _ => none) (slices_IndexFunc_byte_byte_l0_b K) n
/-- slices.IndexFunc[[][]byte,[]byte] -/
noncomputable def slices_IndexFunc_byte_byte (K : Nat) (s0 : Sl) (f1 : Value) (w : World) : Option ((Int × Unit) × World) :=
  bnd (slices_IndexFunc_byte_byte_l0 K K s0 f1 ((s0.len : Nat) : Int) 0 w) fun y_6 w_7 =>
  (match y_6 with
  | .norm z_8n => (some (((-1), ()), w_7))
  | .ret z_8r => (some ((z_8r.1, ()), w_7)))
theorem slices_IndexFunc_byte_byte_l0_ok (K : Nat) (n : Nat) : StmtOk prog [(0, .sl), (1, .val), (7, .int .i64), (8, .int .i64)] [] [(4, .int .i64)] [(4, 6), (8, 19)] ((fun n x w => slices_IndexFunc_byte_byte_l0 K n x.1 x.2.1 x.2.2.1 x.2.2.2.1 w) n) (.block 0 (.loop (cd (bodyOf f40) [1, 0, 1, 0, 0]))) :=
    mk_loop (O := tabL []) (root := (bodyOf f40)) (π := [1, 0, 1, 0, 0]) (id := 0) (Li := [(0, .sl), (1, .val), (7, .int .i64), (8, .int .i64)]) (Lo := []) (Lr := [(4, .int .i64)]) (S := (fun n x w => slices_IndexFunc_byte_byte_l0 K n x.1 x.2.1 x.2.2.1 x.2.2.2.1 w)) (body := cd (bodyOf f40) [1, 0, 1, 0, 0]) (slices_IndexFunc_byte_byte_Eok K) (slices_IndexFunc_byte_byte_Rok K) rfl (Orc.nil _ _ _) (by kernel_rfl) (fun _ _ => by kernel_rfl) (fun _ _ _ => by kernel_rfl) n
noncomputable def slices_IndexFunc_byte_byte_l0_se (K : Nat) : SE := stmt [(0, .sl), (1, .val), (7, .int .i64), (8, .int .i64)] [] [(4, .int .i64)] [(4, 6), (8, 19)] (fun x w => slices_IndexFunc_byte_byte_l0 K K x.1 x.2.1 x.2.2.1 x.2.2.2.1 w)
theorem slices_IndexFunc_byte_byte_l0_se_ok (K : Nat) (R : Rg) (h : subRB [(4, 6), (8, 19)] R = true) : (slices_IndexFunc_byte_byte_l0_se K).Ok prog R (.block 0 (.loop (cd (bodyOf f40) [1, 0, 1, 0, 0]))) := stmt_ok (Li := [(0, .sl), (1, .val), (7, .int .i64), (8, .int .i64)]) (Lo := []) (Lr := [(4, .int .i64)]) (S := (fun x w => slices_IndexFunc_byte_byte_l0 K K x.1 x.2.1 x.2.2.1 x.2.2.2.1 w)) (slices_IndexFunc_byte_byte_l0_ok K K) (subR_of h)
theorem slices_IndexFunc_byte_byte_facts : FunFacts prog 40 f40 (bodyOf f40) [(0, .sl), (1, .val)] [(0, 19)] := ⟨func40, by kernel_rfl, by kernel_rfl, by kernel_rfl, by kernel_rfl, by kernel_rfl⟩
theorem slices_IndexFunc_byte_byte_calls (K : Nat) (x : TT [(0, .sl), (1, .val)]) (w : World) (y : TR [.int .i64]) (w2 : World) (h : slices_IndexFunc_byte_byte K x.1 x.2.1 w = some (y, w2)) : Calls prog 40 (encA [(0, .sl), (1, .val)] x).toArray w (fun e w3 => e = .returned (resV (encR [.int .i64] y)) ∧ w3 = w2) :=
    mk_fun (O := tabL [([1, 0, 1], slices_IndexFunc_byte_byte_l0_se K)]) (Lp := [(0, .sl), (1, .val)]) (Rt := [.int .i64]) (S := (fun x w => slices_IndexFunc_byte_byte K x.1 x.2.1 w)) (slices_IndexFunc_byte_byte_Eok K) (slices_IndexFunc_byte_byte_Rok K) rfl slices_IndexFunc_byte_byte_facts (Orc.cons (by kernel_rfl) (slices_IndexFunc_byte_byte_l0_se_ok K [(0, 19)] (by kernel_rfl)) (Orc.nil _ _ _)) (fun _ _ => by kernel_rfl) x w y w2 h
noncomputable def slices_IndexFunc_byte_byte_ce (K : Nat) : CE := funE [(0, .sl), (1, .val)] [.int .i64] (fun x w => slices_IndexFunc_byte_byte K x.1 x.2.1 w)
theorem slices_IndexFunc_byte_byte_ok (K : Nat) : (slices_IndexFunc_byte_byte_ce K).Ok prog 40 := funE_ok (Rt := [.int .i64]) (S := (fun x w => slices_IndexFunc_byte_byte K x.1 x.2.1 w)) slices_IndexFunc_byte_byte_facts fun x w y w2 h => slices_IndexFunc_byte_byte_calls K x w y w2 h

noncomputable def slices_ContainsFunc_byte_byte_E (K : Nat) : List (Nat × CE) := [(40, slices_IndexFunc_byte_byte_ce K)]
theorem slices_ContainsFunc_byte_byte_Eok (K : Nat) : Env.Ok prog (tab (slices_ContainsFunc_byte_byte_E K)) := (Env.cons (slices_IndexFunc_byte_byte_ok K) (Env.nil _))
noncomputable def slices_ContainsFunc_byte_byte_R (K : Nat) : List (Nat × RE) := []
theorem slices_ContainsFunc_byte_byte_Rok (K : Nat) : REnv.Ok prog (tab (slices_ContainsFunc_byte_byte_R K)) := (REnv.nil _)
/-- slices.ContainsFunc[[][]byte,[]byte] -/
noncomputable def slices_ContainsFunc_byte_byte (K : Nat) (s0 : Sl) (f1 : Value) (w : World) : Option ((Bool × Unit) × World) :=
  bnd (slices_IndexFunc_byte_byte K s0 f1 w) fun r_1 w_2 =>
  some (((decide (r_1.1 ≥ 0)), ()), w_2)
theorem slices_ContainsFunc_byte_byte_facts : FunFacts prog 21 f21 (bodyOf f21) [(0, .sl), (1, .val)] [(0, 9)] := ⟨func21, by kernel_rfl, by kernel_rfl, by kernel_rfl, by kernel_rfl, by kernel_rfl⟩
theorem slices_ContainsFunc_byte_byte_calls (K : Nat) (x : TT [(0, .sl), (1, .val)]) (w : World) (y : TR [.bool]) (w2 : World) (h : slices_ContainsFunc_byte_byte K x.1 x.2.1 w = some (y, w2)) : Calls prog 21 (encA [(0, .sl), (1, .val)] x).toArray w (fun e w3 => e = .returned (resV (encR [.bool] y)) ∧ w3 = w2) :=
    mk_fun (O := tabL []) (Lp := [(0, .sl), (1, .val)]) (Rt := [.bool]) (S := (fun x w => slices_ContainsFunc_byte_byte K x.1 x.2.1 w)) (slices_ContainsFunc_byte_byte_Eok K) (slices_ContainsFunc_byte_byte_Rok K) rfl slices_ContainsFunc_byte_byte_facts (Orc.nil _ _ _) (fun _ _ => by kernel_rfl) x w y w2 h
noncomputable def slices_ContainsFunc_byte_byte_ce (K : Nat) : CE := funE [(0, .sl), (1, .val)] [.bool] (fun x w => slices_ContainsFunc_byte_byte K x.1 x.2.1 w)
theorem slices_ContainsFunc_byte_byte_ok (K : Nat) : (slices_ContainsFunc_byte_byte_ce K).Ok prog 21 := funE_ok (Rt := [.bool]) (S := (fun x w => slices_ContainsFunc_byte_byte K x.1 x.2.1 w)) slices_ContainsFunc_byte_byte_facts fun x w y w2 h => slices_ContainsFunc_byte_byte_calls K x w y w2 h

noncomputable def digest_first_E (K : Nat) : List (Nat × CE) := []
theorem digest_first_Eok (K : Nat) : Env.Ok prog (tab (digest_first_E K)) := (Env.nil _)
noncomputable def digest_first_R (K : Nat) : List (Nat × RE) := []
theorem digest_first_Rok (K : Nat) : REnv.Ok prog (tab (digest_first_R K)) := (REnv.nil _)
noncomputable def digest_first_l0_b (K : Nat) (rec : Int → Addr → Int → World → Option ((Unit) × World)) (hash0 : Int) (out2 : Addr) (a4 : Int) (w : World) : Option ((Unit) × World) :=
  if (decide (a4 < 8)) = true then (if (hash0 == 224) = true then (if (0 : Int) ≤ (IntKind.i64.wrap (8 + a4)) ∧ (IntKind.i64.wrap (8 + a4)) < ((16 : Nat) : Int) then ((ldI .u64 ((⟨4, 0, none⟩ : Addr).add ((Int.toNat (IntKind.i64.wrap (8 + a4))) * 1)) w).bind fun v_3 =>
  if (0 : Int) ≤ a4 ∧ a4 < ((8 : Nat) : Int) then ((stC (out2.add ((Int.toNat a4) * 1)) (.int .u64 (bits .and .u64 v_3 4294967295)) w).bind fun w_4 =>
  rec hash0 out2 (IntKind.i64.wrap (a4 + 1)) w_4) else none) else none) else (if (hash0 == 256) = true then (if (0 : Int) ≤ a4 ∧ a4 < ((16 : Nat) : Int) then ((ldI .u64 ((⟨4, 0, none⟩ : Addr).add ((Int.toNat a4) * 1)) w).bind fun v_5 =>
  if (0 : Int) ≤ a4 ∧ a4 < ((8 : Nat) : Int) then ((stC (out2.add ((Int.toNat a4) * 1)) (.int .u64 (Int.fdiv v_5 (2 ^ 32))) w).bind fun w_6 =>
  rec hash0 out2 (IntKind.i64.wrap (a4 + 1)) w_6) else none) else none) else (if (hash0 == 384) = true then (if (0 : Int) ≤ (IntKind.i64.wrap (8 + a4)) ∧ (IntKind.i64.wrap (8 + a4)) < ((16 : Nat) : Int) then ((ldI .u64 ((⟨4, 0, none⟩ : Addr).add ((Int.toNat (IntKind.i64.wrap (8 + a4))) * 1)) w).bind fun v_7 =>
  if (0 : Int) ≤ a4 ∧ a4 < ((8 : Nat) : Int) then ((stC (out2.add ((Int.toNat a4) * 1)) (.int .u64 v_7) w).bind fun w_8 =>
  rec hash0 out2 (IntKind.i64.wrap (a4 + 1)) w_8) else none) else none) else (if (hash0 == 512) = true then (if (0 : Int) ≤ a4 ∧ a4 < ((16 : Nat) : Int) then ((ldI .u64 ((⟨4, 0, none⟩ : Addr).add ((Int.toNat a4) * 1)) w).bind fun v_9 =>
  if (0 : Int) ≤ a4 ∧ a4 < ((8 : Nat) : Int) then ((stC (out2.add ((Int.toNat a4) * 1)) (.int .u64 v_9) w).bind fun w_10 =>
  rec hash0 out2 (IntKind.i64.wrap (a4 + 1)) w_10) else none) else none) else (rec hash0 out2 (IntKind.i64.wrap (a4 + 1)) w))))) else (some ((), w))
noncomputable def digest_first_l0 (K : Nat) (n : Nat) : Int → Addr → Int → World → Option ((Unit) × World) := iter (fun _ _ _ _ => none) (digest_first_l0_b K) n
/-- coffer/digest.first -/
noncomputable def digest_first (K : Nat) (hash0 : Int) (w : World) : Option (((Array Value) × Unit) × World) :=
  bnd (newB z105 105 w) fun out_1 w_2 =>
  bnd (digest_first_l0 K K hash0 out_1 0 w_2) fun y_11 w_12 =>
  (ldA 8 out_1 w_12).bind fun v_13 =>
  if (v_13).size = 8 then ((stA out_1 v_13 w_12).bind fun w_14 =>
  (ldA 8 out_1 w_14).bind fun res_15 =>
  some ((res_15, ()), w_14)) else none
theorem digest_first_l0_ok (K : Nat) (n : Nat) : StmtNOk prog [(0, .int .i64), (2, .addr), (4, .int .i64)] [] [(3, 41)] ((fun n x w => digest_first_l0 K n x.1 x.2.1 x.2.2.1 w) n) (.block 0 (.loop (cd (bodyOf f68) [1, 0, 1, 0, 0]))) :=
    mk_loopN (O := tabL []) (root := (bodyOf f68)) (π := [1, 0, 1, 0, 0]) (id := 0) (Li := [(0, .int .i64), (2, .addr), (4, .int .i64)]) (Lo := []) (S := (fun n x w => digest_first_l0 K n x.1 x.2.1 x.2.2.1 w)) (body := cd (bodyOf f68) [1, 0, 1, 0, 0]) (digest_first_Eok K) (digest_first_Rok K) rfl (Orc.nil _ _ _) (by kernel_rfl) (fun _ _ => by kernel_rfl) (fun _ _ _ => by kernel_rfl) n
noncomputable def digest_first_l0_se (K : Nat) : SE := stmtN [(0, .int .i64), (2, .addr), (4, .int .i64)] [] [(3, 41)] (fun x w => digest_first_l0 K K x.1 x.2.1 x.2.2.1 w)
theorem digest_first_l0_se_ok (K : Nat) (R : Rg) (h : subRB [(3, 41)] R = true) : (digest_first_l0_se K).Ok prog R (.block 0 (.loop (cd (bodyOf f68) [1, 0, 1, 0, 0]))) := stmtN_ok (Li := [(0, .int .i64), (2, .addr), (4, .int .i64)]) (Lo := []) (S := (fun x w => digest_first_l0 K K x.1 x.2.1 x.2.2.1 w)) (digest_first_l0_ok K K) (subR_of h)
theorem digest_first_facts : FunFacts prog 68 f68 (bodyOf f68) [(0, .int .i64)] [(0, 42)] := ⟨func68, by kernel_rfl, by kernel_rfl, by kernel_rfl, by kernel_rfl, by kernel_rfl⟩
theorem digest_first_calls (K : Nat) (x : TT [(0, .int .i64)]) (w : World) (y : TR [.agg]) (w2 : World) (h : digest_first K x.1 w = some (y, w2)) : Calls prog 68 (encA [(0, .int .i64)] x).toArray w (fun e w3 => e = .returned (resV (encR [.agg] y)) ∧ w3 = w2) :=
    mk_fun (O := tabL [([1, 0, 1], digest_first_l0_se K)]) (Lp := [(0, .int .i64)]) (Rt := [.agg]) (S := (fun x w => digest_first K x.1 w)) (digest_first_Eok K) (digest_first_Rok K) rfl digest_first_facts (Orc.cons (by kernel_rfl) (digest_first_l0_se_ok K [(0, 42)] (by kernel_rfl)) (Orc.nil _ _ _)) (fun _ _ => by kernel_rfl) x w y w2 h
noncomputable def digest_first_ce (K : Nat) : CE := funE [(0, .int .i64)] [.agg] (fun x w => digest_first K x.1 w)
theorem digest_first_ok (K : Nat) : (digest_first_ce K).Ok prog 68 := funE_ok (Rt := [.agg]) (S := (fun x w => digest_first K x.1 w)) digest_first_facts fun x w y w2 h => digest_first_calls K x w y w2 h

noncomputable def digest_begin_E (K : Nat) : List (Nat × CE) := [(36, digest_kindOf_ce), (68, digest_first_ce K)]
theorem digest_begin_Eok (K : Nat) : Env.Ok prog (tab (digest_begin_E K)) := (Env.cons (digest_kindOf_ok) (Env.cons (digest_first_ok K) (Env.nil _)))
noncomputable def digest_begin_R (K : Nat) : List (Nat × RE) := []
theorem digest_begin_Rok (K : Nat) : REnv.Ok prog (tab (digest_begin_R K)) := (REnv.nil _)
/-- coffer/digest.begin -/
noncomputable def digest_begin (K : Nat) (hash0 : Int) (w : World) : Option (((Array Value) × Bool × Unit) × World) :=
  bnd (newB z108 108 w) fun p_1 w_2 =>
  bnd (digest_kindOf hash0 w_2) fun r_3 w_4 =>
  bnd (newB z74 74 w_4) fun k_5 w_6 =>
  if (r_3.1).size = 4 then ((stA k_5 r_3.1 w_6).bind fun w_7 =>
  (ldA 4 k_5 w_7.drew).bind fun v_8 =>
  bnd (digest_first K hash0 w_7.drew) fun r_9 w_10 =>
  (ldA 4 k_5 w_10).bind fun v_11 =>
  sameK (.agg v_8) (.agg v_11) ((prog.built 108 [(0, (.agg v_8)), (1, (.int .i64 hash0)), (3, (.agg r_9.1))]).bind fun cs_12 =>
  if (cs_12).size = 142 then ((stA p_1 cs_12 w_10).bind fun w_13 =>
  (ldA 142 p_1 w_13).bind fun res_14 =>
  some ((res_14, r_3.2.1, ()), w_13)) else none)) else none
theorem digest_begin_facts : FunFacts prog 65 f65 (bodyOf f65) [(0, .int .i64)] [(0, 17)] := ⟨func65, by kernel_rfl, by kernel_rfl, by kernel_rfl, by kernel_rfl, by kernel_rfl⟩
theorem digest_begin_calls (K : Nat) (x : TT [(0, .int .i64)]) (w : World) (y : TR [.agg, .bool]) (w2 : World) (h : digest_begin K x.1 w = some (y, w2)) : Calls prog 65 (encA [(0, .int .i64)] x).toArray w (fun e w3 => e = .returned (resV (encR [.agg, .bool] y)) ∧ w3 = w2) :=
    mk_fun (O := tabL []) (Lp := [(0, .int .i64)]) (Rt := [.agg, .bool]) (S := (fun x w => digest_begin K x.1 w)) (digest_begin_Eok K) (digest_begin_Rok K) rfl digest_begin_facts (Orc.nil _ _ _) (fun _ _ => by kernel_rfl) x w y w2 h
noncomputable def digest_begin_ce (K : Nat) : CE := funE [(0, .int .i64)] [.agg, .bool] (fun x w => digest_begin K x.1 w)
theorem digest_begin_ok (K : Nat) : (digest_begin_ce K).Ok prog 65 := funE_ok (Rt := [.agg, .bool]) (S := (fun x w => digest_begin K x.1 w)) digest_begin_facts fun x w y w2 h => digest_begin_calls K x w y w2 h

noncomputable def bits_RotateLeft64_R : List (Nat × RE) := []
theorem bits_RotateLeft64_Rok : REnv.Ok prog (tab (bits_RotateLeft64_R)) := (REnv.nil _)
/-- math/bits.RotateLeft64 -/
noncomputable def bits_RotateLeft64 (x0 : Int) (k1 : Int) : Option (Int × Unit) :=
  if (0 : Int) ≤ (bits .and .u64 (IntKind.u64.wrap k1) 63) then (if (0 : Int) ≤ (IntKind.u64.wrap (64 - (bits .and .u64 (IntKind.u64.wrap k1) 63))) then (some ((bits .or .u64 (IntKind.u64.wrap (x0 * 2 ^ (min (Int.toNat (bits .and .u64 (IntKind.u64.wrap k1) 63)) IntKind.u64.bits))) (Int.fdiv x0 (2 ^ (min (Int.toNat (IntKind.u64.wrap (64 - (bits .and .u64 (IntKind.u64.wrap k1) 63)))) IntKind.u64.bits)))), ())) else none) else none
theorem bits_RotateLeft64_facts : FunFacts prog 56 f56 (bodyOf f56) [(0, .int .u64), (1, .int .i64)] [(0, 17)] := ⟨func56, by kernel_rfl, by kernel_rfl, by kernel_rfl, by kernel_rfl, by kernel_rfl⟩
theorem bits_RotateLeft64_calls (x : TT [(0, .int .u64), (1, .int .i64)]) (w : World) (y : TR [.int .u64]) (h : bits_RotateLeft64 x.1 x.2.1 = some y) : Calls prog 56 (encA [(0, .int .u64), (1, .int .i64)] x).toArray w (fun e w3 => e = .returned (resV (encR [.int .u64] y)) ∧ w3 = w) :=
    mk_funQ (O := tabL []) (Lp := [(0, .int .u64), (1, .int .i64)]) (Rt := [.int .u64]) (S := (fun x w => bits_RotateLeft64 x.1 x.2.1)) (bits_RotateLeft64_Rok) bits_RotateLeft64_facts (OrcQ.nil _ _ _) (fun _ _ => by kernel_rfl) x w y h
noncomputable def bits_RotateLeft64_re : RE := funR [(0, .int .u64), (1, .int .i64)] [.int .u64] (fun x w => bits_RotateLeft64 x.1 x.2.1)
theorem bits_RotateLeft64_ok : (bits_RotateLeft64_re).Ok prog 56 := funR_ok (Rt := [.int .u64]) (S := (fun x w => bits_RotateLeft64 x.1 x.2.1)) bits_RotateLeft64_facts fun x w y h => bits_RotateLeft64_calls x w y h

end Go.Sh

/- What functions of the program do, as Lean functions; that the machine does just that. Printed by shal.py, a program of this claim's writer. -/
set_option maxRecDepth 100000
set_option linter.unusedVariables false
namespace Go.Sh
open Go.Fw Go.Proofs.Tryd

noncomputable def digest_wide_E (K : Nat) : List (Nat × CE) := []
theorem digest_wide_Eok (K : Nat) : Env.Ok prog (tab (digest_wide_E K)) := (Env.nil _)
noncomputable def digest_wide_R (K : Nat) : List (Nat × RE) := [(56, bits_RotateLeft64_re)]
theorem digest_wide_Rok (K : Nat) : REnv.Ok prog (tab (digest_wide_R K)) := (REnv.cons (bits_RotateLeft64_ok) (REnv.nil _))
noncomputable def digest_wide_l2_b (K : Nat) (rec : Option Addr → Sl → Addr → Int → Int → Sl → Int → Int → World → Option ((Unit) × World)) (h0 : Option Addr) (b1 : Sl) (w4 : Addr) (i5 : Int) (a30 : Int) (a39 : Sl) (a40 : Int) (a41 : Int) (w : World) : Option ((Unit) × World) :=
  if (decide (a41 < a40)) = true then ((a39.a).bind fun p_3 =>
  if (0 : Int) ≤ a41 ∧ a41 < ((a39.len : Nat) : Int) then ((ldI .u8 (p_3.add ((Int.toNat a41) * 1)) w).bind fun v_4 =>
  if (0 : Int) ≤ i5 ∧ i5 < ((80 : Nat) : Int) then ((ldI .u64 (w4.add ((Int.toNat i5) * 1)) w).bind fun v_5 =>
  if (0 : Int) ≤ i5 ∧ i5 < ((80 : Nat) : Int) then ((stC (w4.add ((Int.toNat i5) * 1)) (.int .u64 (bits .or .u64 (IntKind.u64.wrap (v_5 * 2 ^ 8)) (IntKind.u64.wrap v_4))) w).bind fun w_6 =>
  rec h0 b1 w4 i5 a30 a39 a40 (IntKind.i64.wrap (a41 + 1)) w_6) else none) else none) else none) else (some ((), w))
noncomputable def digest_wide_l2 (K : Nat) (n : Nat) : Option Addr → Sl → Addr → Int → Int → Sl → Int → Int → World → Option ((Unit) × World) := iter (fun _ _ _ _ _ _ _ _ _ => none) (digest_wide_l2_b K) n
noncomputable def digest_wide_l1_b (K : Nat) (rec : Option Addr → Sl → Addr → Int → World → Option ((Unit) × World)) (h0 : Option Addr) (b1 : Sl) (w4 : Addr) (a30 : Int) (w : World) : Option ((Unit) × World) :=
  if (decide (a30 < 16)) = true then (if (0 : Int) ≤ (IntKind.i64.wrap ((IntKind.i64.wrap (8 * a30)) + 8)) ∧ (IntKind.i64.wrap ((IntKind.i64.wrap (8 * a30)) + 8)) ≤ ((b1.cap : Nat) : Int) then (if (0 : Int) ≤ (IntKind.i64.wrap (8 * a30)) ∧ (IntKind.i64.wrap (8 * a30)) ≤ (((Int.toNat ((IntKind.i64.wrap ((IntKind.i64.wrap (8 * a30)) + 8)))) : Nat) : Int) then (bnd (digest_wide_l2 K K h0 b1 w4 a30 a30 ⟨(sla b1.a (Int.toNat ((IntKind.i64.wrap (8 * a30)))) b1.cap 1), ((Int.toNat ((IntKind.i64.wrap ((IntKind.i64.wrap (8 * a30)) + 8)))) - (Int.toNat ((IntKind.i64.wrap (8 * a30))))), (b1.cap - (Int.toNat ((IntKind.i64.wrap (8 * a30)))))⟩ ((((Int.toNat ((IntKind.i64.wrap ((IntKind.i64.wrap (8 * a30)) + 8)))) - (Int.toNat ((IntKind.i64.wrap (8 * a30))))) : Nat) : Int) 0 w) fun y_7 w_8 =>
  rec h0 b1 w4 (IntKind.i64.wrap (a30 + 1)) w_8) else none) else none) else (some ((), w))
noncomputable def digest_wide_l1 (K : Nat) (n : Nat) : Option Addr → Sl → Addr → Int → World → Option ((Unit) × World) := iter (fun _ _ _ _ _ => none) (digest_wide_l1_b K) n
noncomputable def digest_wide_l3_b (K : Nat) (rec : Option Addr → Sl → Addr → Int → World → Option ((Unit) × World)) (h0 : Option Addr) (b1 : Sl) (w4 : Addr) (i8 : Int) (w : World) : Option ((Unit) × World) :=
  if (decide (i8 < 80)) = true then (if (0 : Int) ≤ (IntKind.i64.wrap (i8 - 15)) ∧ (IntKind.i64.wrap (i8 - 15)) < ((80 : Nat) : Int) then (if (0 : Int) ≤ (IntKind.i64.wrap (i8 - 2)) ∧ (IntKind.i64.wrap (i8 - 2)) < ((80 : Nat) : Int) then ((ldI .u64 (w4.add ((Int.toNat (IntKind.i64.wrap (i8 - 15))) * 1)) w.drew).bind fun v_11 =>
  (ldI .u64 (w4.add ((Int.toNat (IntKind.i64.wrap (i8 - 2))) * 1)) w.drew).bind fun v_12 =>
  if (0 : Int) ≤ (IntKind.i64.wrap (i8 - 16)) ∧ (IntKind.i64.wrap (i8 - 16)) < ((80 : Nat) : Int) then (if (0 : Int) ≤ (IntKind.i64.wrap (i8 - 7)) ∧ (IntKind.i64.wrap (i8 - 7)) < ((80 : Nat) : Int) then ((ldI .u64 (w4.add ((Int.toNat (IntKind.i64.wrap (i8 - 16))) * 1)) w.drew.drew).bind fun v_13 =>
  (ldI .u64 (w4.add ((Int.toNat (IntKind.i64.wrap (i8 - 7))) * 1)) w.drew.drew).bind fun v_14 =>
  (bits_RotateLeft64 v_11 (-1)).bind fun r_15 =>
  (bits_RotateLeft64 v_11 (-8)).bind fun r_16 =>
  (bits_RotateLeft64 v_12 (-19)).bind fun r_17 =>
  (bits_RotateLeft64 v_12 (-61)).bind fun r_18 =>
  if (0 : Int) ≤ i8 ∧ i8 < ((80 : Nat) : Int) then ((stC (w4.add ((Int.toNat i8) * 1)) (.int .u64 (IntKind.u64.wrap ((IntKind.u64.wrap ((IntKind.u64.wrap (v_13 + v_14)) + (bits .xor .u64 (bits .xor .u64 r_15.1 r_16.1) (Int.fdiv v_11 (2 ^ 7))))) + (bits .xor .u64 (bits .xor .u64 r_17.1 r_18.1) (Int.fdiv v_12 (2 ^ 6)))))) w.drew.drew).bind fun w_19 =>
  rec h0 b1 w4 (IntKind.i64.wrap (i8 + 1)) w_19) else none) else none) else none) else none) else none) else (some ((), w))
noncomputable def digest_wide_l3 (K : Nat) (n : Nat) : Option Addr → Sl → Addr → Int → World → Option ((Unit) × World) := iter (fun _ _ _ _ _ => none) (digest_wide_l3_b K) n
noncomputable def digest_wide_l4_b (K : Nat) (rec : Option Addr → Sl → Addr → Int → Int → Int → Int → Int → Int → Int → Int → Array Value → Int → World → Option ((Int × Int × Int × Int × Int × Int × Int × Int × Unit) × World)) (h0 : Option Addr) (b1 : Sl) (w4 : Addr) (a11 : Int) (b112 : Int) (c13 : Int) (d14 : Int) (e15 : Int) (f16 : Int) (g17 : Int) (k18 : Int) (a129 : Array Value) (a130 : Int) (w : World) : Option ((Int × Int × Int × Int × Int × Int × Int × Int × Unit) × World) :=
  if (decide (a130 < 80)) = true then (if (0 : Int) ≤ a130 ∧ a130 < ((80 : Nat) : Int) then ((a129[((Int.toNat a130) * 1)]?).bind fun v_39 =>
  (asI .u64 v_39).bind fun v_40 =>
  if (0 : Int) ≤ a130 ∧ a130 < ((80 : Nat) : Int) then ((bits_RotateLeft64 e15 (-14)).bind fun r_41 =>
  (bits_RotateLeft64 e15 (-18)).bind fun r_42 =>
  (bits_RotateLeft64 e15 (-41)).bind fun r_43 =>
  (ldI .u64 (w4.add ((Int.toNat a130) * 1)) w.drew).bind fun v_44 =>
  (bits_RotateLeft64 a11 (-28)).bind fun r_45 =>
  (bits_RotateLeft64 a11 (-34)).bind fun r_46 =>
  (bits_RotateLeft64 a11 (-39)).bind fun r_47 =>
  rec h0 b1 w4 (IntKind.u64.wrap ((IntKind.u64.wrap ((IntKind.u64.wrap ((IntKind.u64.wrap ((IntKind.u64.wrap (k18 + (bits .xor .u64 (bits .xor .u64 r_41.1 r_42.1) r_43.1))) + (bits .xor .u64 (bits .and .u64 e15 f16) (bits .and .u64 (bits .xor .u64 IntKind.u64.max e15) g17)))) + v_40)) + v_44)) + (IntKind.u64.wrap ((bits .xor .u64 (bits .xor .u64 r_45.1 r_46.1) r_47.1) + (bits .xor .u64 (bits .xor .u64 (bits .and .u64 a11 b112) (bits .and .u64 a11 c13)) (bits .and .u64 b112 c13)))))) a11 b112 c13 (IntKind.u64.wrap (d14 + (IntKind.u64.wrap ((IntKind.u64.wrap ((IntKind.u64.wrap ((IntKind.u64.wrap (k18 + (bits .xor .u64 (bits .xor .u64 r_41.1 r_42.1) r_43.1))) + (bits .xor .u64 (bits .and .u64 e15 f16) (bits .and .u64 (bits .xor .u64 IntKind.u64.max e15) g17)))) + v_40)) + v_44)))) e15 f16 g17 a129 (IntKind.i64.wrap (a130 + 1)) w.drew) else none) else none) else (some ((a11, b112, c13, d14, e15, f16, g17, k18, ()), w))
noncomputable def digest_wide_l4 (K : Nat) (n : Nat) : Option Addr → Sl → Addr → Int → Int → Int → Int → Int → Int → Int → Int → Array Value → Int → World → Option ((Int × Int × Int × Int × Int × Int × Int × Int × Unit) × World) := iter (fun _ _ _ _ _ _ _ _ _ _ _ _ _ _ => none) (digest_wide_l4_b K) n
noncomputable def digest_wide_l5_b (K : Nat) (rec : Option Addr → Sl → Addr → Array Value → Int → World → Option ((Unit) × World)) (h0 : Option Addr) (b1 : Sl) (w4 : Addr) (a200 : Array Value) (a201 : Int) (w : World) : Option ((Unit) × World) :=
  if (decide (a201 < 8)) = true then (if (0 : Int) ≤ a201 ∧ a201 < ((8 : Nat) : Int) then ((a200[((Int.toNat a201) * 1)]?).bind fun v_51 =>
  (asI .u64 v_51).bind fun v_52 =>
  (h0).bind fun p_53 =>
  if (0 : Int) ≤ a201 ∧ a201 < ((8 : Nat) : Int) then ((h0).bind fun p_54 =>
  (ldI .u64 (p_53.add ((Int.toNat a201) * 1)) w.drew).bind fun v_55 =>
  if (0 : Int) ≤ a201 ∧ a201 < ((8 : Nat) : Int) then ((stC (p_54.add ((Int.toNat a201) * 1)) (.int .u64 (IntKind.u64.wrap (v_55 + v_52))) w.drew).bind fun w_56 =>
  rec h0 b1 w4 a200 (IntKind.i64.wrap (a201 + 1)) w_56) else none) else none) else none) else (some ((), w))
noncomputable def digest_wide_l5 (K : Nat) (n : Nat) : Option Addr → Sl → Addr → Array Value → Int → World → Option ((Unit) × World) := iter (fun _ _ _ _ _ _ => none) (digest_wide_l5_b K) n
noncomputable def digest_wide_l0_b (K : Nat) (rec : Option Addr → Sl → Addr → World → Option ((Unit) × World)) (h0 : Option Addr) (b1 : Sl) (w4 : Addr) (w : World) : Option ((Unit) × World) :=
  if (decide (((b1.len : Nat) : Int) ≥ 128)) = true then (bnd (digest_wide_l1 K K h0 b1 w4 0 w) fun y_9 w_10 =>
  bnd (digest_wide_l3 K K h0 b1 w4 16 w_10) fun y_20 w_21 =>
  (h0).bind fun p_22 =>
  (h0).bind fun p_23 =>
  (h0).bind fun p_24 =>
  (h0).bind fun p_25 =>
  (h0).bind fun p_26 =>
  (h0).bind fun p_27 =>
  (h0).bind fun p_28 =>
  (h0).bind fun p_29 =>
  (ldI .u64 (p_22.add (0 * 1)) w_21.drew).bind fun v_30 =>
  (ldI .u64 (p_23.add (1 * 1)) w_21.drew).bind fun v_31 =>
  (ldI .u64 (p_24.add (2 * 1)) w_21.drew).bind fun v_32 =>
  (ldI .u64 (p_25.add (3 * 1)) w_21.drew).bind fun v_33 =>
  (ldI .u64 (p_26.add (4 * 1)) w_21.drew).bind fun v_34 =>
  (ldI .u64 (p_27.add (5 * 1)) w_21.drew).bind fun v_35 =>
  (ldI .u64 (p_28.add (6 * 1)) w_21.drew).bind fun v_36 =>
  (ldI .u64 (p_29.add (7 * 1)) w_21.drew).bind fun v_37 =>
  (ldA 80 (⟨1, 0, none⟩ : Addr) w_21.drew).bind fun v_38 =>
  bnd (digest_wide_l4 K K h0 b1 w4 v_30 v_31 v_32 v_33 v_34 v_35 v_36 v_37 v_38 0 w_21.drew) fun y_48 w_49 =>
  (prog.built 105 [(0, (.int .u64 y_48.1)), (1, (.int .u64 y_48.2.1)), (2, (.int .u64 y_48.2.2.1)), (3, (.int .u64 y_48.2.2.2.1)), (4, (.int .u64 y_48.2.2.2.2.1)), (5, (.int .u64 y_48.2.2.2.2.2.1)), (6, (.int .u64 y_48.2.2.2.2.2.2.1)), (7, (.int .u64 y_48.2.2.2.2.2.2.2.1))]).bind fun cs_50 =>
  bnd (digest_wide_l5 K K h0 b1 w4 cs_50 0 w_49) fun y_57 w_58 =>
  if (0 : Int) ≤ 128 ∧ 128 ≤ ((b1.len : Nat) : Int) then (rec h0 ⟨(sla b1.a 128 b1.cap 1), (b1.len - 128), (b1.cap - 128)⟩ w4 w_58) else none) else (some ((), w))
noncomputable def digest_wide_l0 (K : Nat) (n : Nat) : Option Addr → Sl → Addr → World → Option ((Unit) × World) := iter (fun _ _ _ _ => none) (digest_wide_l0_b K) n
/-- coffer/digest.wide -/
noncomputable def digest_wide (K : Nat) (h0 : Option Addr) (b1 : Sl) (w : World) : Option ((Unit) × World) :=
  bnd (newB z103 103 w) fun w_1 w_2 =>
  bnd (digest_wide_l0 K K h0 b1 w_1 w_2) fun y_59 w_60 =>
  some ((), w_60)
theorem digest_wide_l2_ok (K : Nat) (n : Nat) : StmtNOk prog [(0, .ptr), (1, .sl), (4, .addr), (5, .int .i64), (30, .int .i64), (39, .sl), (40, .int .i64), (41, .int .i64)] [] [(7, 8), (41, 55)] ((fun n x w => digest_wide_l2 K n x.1 x.2.1 x.2.2.1 x.2.2.2.1 x.2.2.2.2.1 x.2.2.2.2.2.1 x.2.2.2.2.2.2.1 x.2.2.2.2.2.2.2.1 w) n) (.block 4 (.loop (cd (bodyOf f47) [1, 0, 0, 1, 0, 0, 0, 1, 0, 0, 1, 1, 0, 0, 1, 1, 0, 0]))) :=
    mk_loopN (O := tabL []) (root := (bodyOf f47)) (π := [1, 0, 0, 1, 0, 0, 0, 1, 0, 0, 1, 1, 0, 0, 1, 1, 0, 0]) (id := 4) (Li := [(0, .ptr), (1, .sl), (4, .addr), (5, .int .i64), (30, .int .i64), (39, .sl), (40, .int .i64), (41, .int .i64)]) (Lo := []) (S := (fun n x w => digest_wide_l2 K n x.1 x.2.1 x.2.2.1 x.2.2.2.1 x.2.2.2.2.1 x.2.2.2.2.2.1 x.2.2.2.2.2.2.1 x.2.2.2.2.2.2.2.1 w)) (body := cd (bodyOf f47) [1, 0, 0, 1, 0, 0, 0, 1, 0, 0, 1, 1, 0, 0, 1, 1, 0, 0]) (digest_wide_Eok K) (digest_wide_Rok K) rfl (Orc.nil _ _ _) (by kernel_rfl) (fun _ _ => by kernel_rfl) (fun _ _ _ => by kernel_rfl) n
noncomputable def digest_wide_l2_se (K : Nat) : SE := stmtN [(0, .ptr), (1, .sl), (4, .addr), (5, .int .i64), (30, .int .i64), (39, .sl), (40, .int .i64), (41, .int .i64)] [] [(7, 8), (41, 55)] (fun x w => digest_wide_l2 K K x.1 x.2.1 x.2.2.1 x.2.2.2.1 x.2.2.2.2.1 x.2.2.2.2.2.1 x.2.2.2.2.2.2.1 x.2.2.2.2.2.2.2.1 w)
theorem digest_wide_l2_se_ok (K : Nat) (R : Rg) (h : subRB [(7, 8), (41, 55)] R = true) : (digest_wide_l2_se K).Ok prog R (.block 4 (.loop (cd (bodyOf f47) [1, 0, 0, 1, 0, 0, 0, 1, 0, 0, 1, 1, 0, 0, 1, 1, 0, 0]))) := stmtN_ok (Li := [(0, .ptr), (1, .sl), (4, .addr), (5, .int .i64), (30, .int .i64), (39, .sl), (40, .int .i64), (41, .int .i64)]) (Lo := []) (S := (fun x w => digest_wide_l2 K K x.1 x.2.1 x.2.2.1 x.2.2.2.1 x.2.2.2.2.1 x.2.2.2.2.2.1 x.2.2.2.2.2.2.1 x.2.2.2.2.2.2.2.1 w)) (digest_wide_l2_ok K K) (subR_of h)
theorem digest_wide_l1_ok (K : Nat) (n : Nat) : StmtNOk prog [(0, .ptr), (1, .sl), (4, .addr), (30, .int .i64)] [] [(5, 6), (7, 8), (30, 56)] ((fun n x w => digest_wide_l1 K n x.1 x.2.1 x.2.2.1 x.2.2.2.1 w) n) (.block 2 (.loop (cd (bodyOf f47) [1, 0, 0, 1, 0, 0, 0, 1, 0, 0]))) :=
    mk_loopN (O := tabL [([1, 0, 0, 1, 0, 0, 0, 1, 0, 0, 1, 1, 0, 0, 1, 1], digest_wide_l2_se K)]) (root := (bodyOf f47)) (π := [1, 0, 0, 1, 0, 0, 0, 1, 0, 0]) (id := 2) (Li := [(0, .ptr), (1, .sl), (4, .addr), (30, .int .i64)]) (Lo := []) (S := (fun n x w => digest_wide_l1 K n x.1 x.2.1 x.2.2.1 x.2.2.2.1 w)) (body := cd (bodyOf f47) [1, 0, 0, 1, 0, 0, 0, 1, 0, 0]) (digest_wide_Eok K) (digest_wide_Rok K) rfl (Orc.cons (by kernel_rfl) (digest_wide_l2_se_ok K [(5, 6), (7, 8), (30, 56)] (by kernel_rfl)) (Orc.nil _ _ _)) (by kernel_rfl) (fun _ _ => by kernel_rfl) (fun _ _ _ => by kernel_rfl) n
noncomputable def digest_wide_l1_se (K : Nat) : SE := stmtN [(0, .ptr), (1, .sl), (4, .addr), (30, .int .i64)] [] [(5, 6), (7, 8), (30, 56)] (fun x w => digest_wide_l1 K K x.1 x.2.1 x.2.2.1 x.2.2.2.1 w)
theorem digest_wide_l1_se_ok (K : Nat) (R : Rg) (h : subRB [(5, 6), (7, 8), (30, 56)] R = true) : (digest_wide_l1_se K).Ok prog R (.block 2 (.loop (cd (bodyOf f47) [1, 0, 0, 1, 0, 0, 0, 1, 0, 0]))) := stmtN_ok (Li := [(0, .ptr), (1, .sl), (4, .addr), (30, .int .i64)]) (Lo := []) (S := (fun x w => digest_wide_l1 K K x.1 x.2.1 x.2.2.1 x.2.2.2.1 w)) (digest_wide_l1_ok K K) (subR_of h)
theorem digest_wide_l3_ok (K : Nat) (n : Nat) : StmtNOk prog [(0, .ptr), (1, .sl), (4, .addr), (8, .int .i64)] [] [(8, 11), (56, 97)] ((fun n x w => digest_wide_l3 K n x.1 x.2.1 x.2.2.1 x.2.2.2.1 w) n) (.block 6 (.loop (cd (bodyOf f47) [1, 0, 0, 1, 0, 0, 1, 0, 1, 0, 0]))) :=
    mk_loopN (O := tabL []) (root := (bodyOf f47)) (π := [1, 0, 0, 1, 0, 0, 1, 0, 1, 0, 0]) (id := 6) (Li := [(0, .ptr), (1, .sl), (4, .addr), (8, .int .i64)]) (Lo := []) (S := (fun n x w => digest_wide_l3 K n x.1 x.2.1 x.2.2.1 x.2.2.2.1 w)) (body := cd (bodyOf f47) [1, 0, 0, 1, 0, 0, 1, 0, 1, 0, 0]) (digest_wide_Eok K) (digest_wide_Rok K) rfl (Orc.nil _ _ _) (by kernel_rfl) (fun _ _ => by kernel_rfl) (fun _ _ _ => by kernel_rfl) n
noncomputable def digest_wide_l3_se (K : Nat) : SE := stmtN [(0, .ptr), (1, .sl), (4, .addr), (8, .int .i64)] [] [(8, 11), (56, 97)] (fun x w => digest_wide_l3 K K x.1 x.2.1 x.2.2.1 x.2.2.2.1 w)
theorem digest_wide_l3_se_ok (K : Nat) (R : Rg) (h : subRB [(8, 11), (56, 97)] R = true) : (digest_wide_l3_se K).Ok prog R (.block 6 (.loop (cd (bodyOf f47) [1, 0, 0, 1, 0, 0, 1, 0, 1, 0, 0]))) := stmtN_ok (Li := [(0, .ptr), (1, .sl), (4, .addr), (8, .int .i64)]) (Lo := []) (S := (fun x w => digest_wide_l3 K K x.1 x.2.1 x.2.2.1 x.2.2.2.1 w)) (digest_wide_l3_ok K K) (subR_of h)
theorem digest_wide_l4_ok (K : Nat) (n : Nat) : StmtNOk prog [(0, .ptr), (1, .sl), (4, .addr), (11, .int .u64), (12, .int .u64), (13, .int .u64), (14, .int .u64), (15, .int .u64), (16, .int .u64), (17, .int .u64), (18, .int .u64), (129, .agg), (130, .int .i64)] [(11, .int .u64), (12, .int .u64), (13, .int .u64), (14, .int .u64), (15, .int .u64), (16, .int .u64), (17, .int .u64), (18, .int .u64)] [(11, 23), (130, 192)] ((fun n x w => digest_wide_l4 K n x.1 x.2.1 x.2.2.1 x.2.2.2.1 x.2.2.2.2.1 x.2.2.2.2.2.1 x.2.2.2.2.2.2.1 x.2.2.2.2.2.2.2.1 x.2.2.2.2.2.2.2.2.1 x.2.2.2.2.2.2.2.2.2.1 x.2.2.2.2.2.2.2.2.2.2.1 x.2.2.2.2.2.2.2.2.2.2.2.1 x.2.2.2.2.2.2.2.2.2.2.2.2.1 w) n) (.block 8 (.loop (cd (bodyOf f47) [1, 0, 0, 1, 0, 0, 1, 1, 1, 0, 1, 0, 0]))) :=
    mk_loopN (O := tabL []) (root := (bodyOf f47)) (π := [1, 0, 0, 1, 0, 0, 1, 1, 1, 0, 1, 0, 0]) (id := 8) (Li := [(0, .ptr), (1, .sl), (4, .addr), (11, .int .u64), (12, .int .u64), (13, .int .u64), (14, .int .u64), (15, .int .u64), (16, .int .u64), (17, .int .u64), (18, .int .u64), (129, .agg), (130, .int .i64)]) (Lo := [(11, .int .u64), (12, .int .u64), (13, .int .u64), (14, .int .u64), (15, .int .u64), (16, .int .u64), (17, .int .u64), (18, .int .u64)]) (S := (fun n x w => digest_wide_l4 K n x.1 x.2.1 x.2.2.1 x.2.2.2.1 x.2.2.2.2.1 x.2.2.2.2.2.1 x.2.2.2.2.2.2.1 x.2.2.2.2.2.2.2.1 x.2.2.2.2.2.2.2.2.1 x.2.2.2.2.2.2.2.2.2.1 x.2.2.2.2.2.2.2.2.2.2.1 x.2.2.2.2.2.2.2.2.2.2.2.1 x.2.2.2.2.2.2.2.2.2.2.2.2.1 w)) (body := cd (bodyOf f47) [1, 0, 0, 1, 0, 0, 1, 1, 1, 0, 1, 0, 0]) (digest_wide_Eok K) (digest_wide_Rok K) rfl (Orc.nil _ _ _) (by kernel_rfl) (fun _ _ => by kernel_rfl) (fun _ _ _ => by kernel_rfl) n
noncomputable def digest_wide_l4_se (K : Nat) : SE := stmtN [(0, .ptr), (1, .sl), (4, .addr), (11, .int .u64), (12, .int .u64), (13, .int .u64), (14, .int .u64), (15, .int .u64), (16, .int .u64), (17, .int .u64), (18, .int .u64), (129, .agg), (130, .int .i64)] [(11, .int .u64), (12, .int .u64), (13, .int .u64), (14, .int .u64), (15, .int .u64), (16, .int .u64), (17, .int .u64), (18, .int .u64)] [(11, 23), (130, 192)] (fun x w => digest_wide_l4 K K x.1 x.2.1 x.2.2.1 x.2.2.2.1 x.2.2.2.2.1 x.2.2.2.2.2.1 x.2.2.2.2.2.2.1 x.2.2.2.2.2.2.2.1 x.2.2.2.2.2.2.2.2.1 x.2.2.2.2.2.2.2.2.2.1 x.2.2.2.2.2.2.2.2.2.2.1 x.2.2.2.2.2.2.2.2.2.2.2.1 x.2.2.2.2.2.2.2.2.2.2.2.2.1 w)
theorem digest_wide_l4_se_ok (K : Nat) (R : Rg) (h : subRB [(11, 23), (130, 192)] R = true) : (digest_wide_l4_se K).Ok prog R (.block 8 (.loop (cd (bodyOf f47) [1, 0, 0, 1, 0, 0, 1, 1, 1, 0, 1, 0, 0]))) := stmtN_ok (Li := [(0, .ptr), (1, .sl), (4, .addr), (11, .int .u64), (12, .int .u64), (13, .int .u64), (14, .int .u64), (15, .int .u64), (16, .int .u64), (17, .int .u64), (18, .int .u64), (129, .agg), (130, .int .i64)]) (Lo := [(11, .int .u64), (12, .int .u64), (13, .int .u64), (14, .int .u64), (15, .int .u64), (16, .int .u64), (17, .int .u64), (18, .int .u64)]) (S := (fun x w => digest_wide_l4 K K x.1 x.2.1 x.2.2.1 x.2.2.2.1 x.2.2.2.2.1 x.2.2.2.2.2.1 x.2.2.2.2.2.2.1 x.2.2.2.2.2.2.2.1 x.2.2.2.2.2.2.2.2.1 x.2.2.2.2.2.2.2.2.2.1 x.2.2.2.2.2.2.2.2.2.2.1 x.2.2.2.2.2.2.2.2.2.2.2.1 x.2.2.2.2.2.2.2.2.2.2.2.2.1 w)) (digest_wide_l4_ok K K) (subR_of h)
theorem digest_wide_l5_ok (K : Nat) (n : Nat) : StmtNOk prog [(0, .ptr), (1, .sl), (4, .addr), (200, .agg), (201, .int .i64)] [] [(23, 25), (201, 215)] ((fun n x w => digest_wide_l5 K n x.1 x.2.1 x.2.2.1 x.2.2.2.1 x.2.2.2.2.1 w) n) (.block 10 (.loop (cd (bodyOf f47) [1, 0, 0, 1, 0, 0, 1, 1, 1, 1, 1, 0, 0]))) :=
    mk_loopN (O := tabL []) (root := (bodyOf f47)) (π := [1, 0, 0, 1, 0, 0, 1, 1, 1, 1, 1, 0, 0]) (id := 10) (Li := [(0, .ptr), (1, .sl), (4, .addr), (200, .agg), (201, .int .i64)]) (Lo := []) (S := (fun n x w => digest_wide_l5 K n x.1 x.2.1 x.2.2.1 x.2.2.2.1 x.2.2.2.2.1 w)) (body := cd (bodyOf f47) [1, 0, 0, 1, 0, 0, 1, 1, 1, 1, 1, 0, 0]) (digest_wide_Eok K) (digest_wide_Rok K) rfl (Orc.nil _ _ _) (by kernel_rfl) (fun _ _ => by kernel_rfl) (fun _ _ _ => by kernel_rfl) n
noncomputable def digest_wide_l5_se (K : Nat) : SE := stmtN [(0, .ptr), (1, .sl), (4, .addr), (200, .agg), (201, .int .i64)] [] [(23, 25), (201, 215)] (fun x w => digest_wide_l5 K K x.1 x.2.1 x.2.2.1 x.2.2.2.1 x.2.2.2.2.1 w)
theorem digest_wide_l5_se_ok (K : Nat) (R : Rg) (h : subRB [(23, 25), (201, 215)] R = true) : (digest_wide_l5_se K).Ok prog R (.block 10 (.loop (cd (bodyOf f47) [1, 0, 0, 1, 0, 0, 1, 1, 1, 1, 1, 0, 0]))) := stmtN_ok (Li := [(0, .ptr), (1, .sl), (4, .addr), (200, .agg), (201, .int .i64)]) (Lo := []) (S := (fun x w => digest_wide_l5 K K x.1 x.2.1 x.2.2.1 x.2.2.2.1 x.2.2.2.2.1 w)) (digest_wide_l5_ok K K) (subR_of h)
theorem digest_wide_l0_ok (K : Nat) (n : Nat) : StmtNOk prog [(0, .ptr), (1, .sl), (4, .addr)] [] [(1, 2), (5, 6), (7, 215)] ((fun n x w => digest_wide_l0 K n x.1 x.2.1 x.2.2.1 w) n) (.block 0 (.loop (cd (bodyOf f47) [1, 0, 0]))) :=
    mk_loopN (O := tabL [([1, 0, 0, 1, 0, 0, 0, 1], digest_wide_l1_se K), ([1, 0, 0, 1, 0, 0, 0, 1, 0, 0, 1, 1, 0, 0, 1, 1], digest_wide_l2_se K), ([1, 0, 0, 1, 0, 0, 1, 0, 1], digest_wide_l3_se K), ([1, 0, 0, 1, 0, 0, 1, 1, 1, 0, 1], digest_wide_l4_se K), ([1, 0, 0, 1, 0, 0, 1, 1, 1, 1, 1], digest_wide_l5_se K)]) (root := (bodyOf f47)) (π := [1, 0, 0]) (id := 0) (Li := [(0, .ptr), (1, .sl), (4, .addr)]) (Lo := []) (S := (fun n x w => digest_wide_l0 K n x.1 x.2.1 x.2.2.1 w)) (body := cd (bodyOf f47) [1, 0, 0]) (digest_wide_Eok K) (digest_wide_Rok K) rfl (Orc.cons (by kernel_rfl) (digest_wide_l1_se_ok K [(1, 2), (5, 6), (7, 215)] (by kernel_rfl)) (Orc.cons (by kernel_rfl) (digest_wide_l2_se_ok K [(1, 2), (5, 6), (7, 215)] (by kernel_rfl)) (Orc.cons (by kernel_rfl) (digest_wide_l3_se_ok K [(1, 2), (5, 6), (7, 215)] (by kernel_rfl)) (Orc.cons (by kernel_rfl) (digest_wide_l4_se_ok K [(1, 2), (5, 6), (7, 215)] (by kernel_rfl)) (Orc.cons (by kernel_rfl) (digest_wide_l5_se_ok K [(1, 2), (5, 6), (7, 215)] (by kernel_rfl)) (Orc.nil _ _ _)))))) (by kernel_rfl) (fun _ _ => by kernel_rfl) (fun _ _ _ => by kernel_rfl) n
noncomputable def digest_wide_l0_se (K : Nat) : SE := stmtN [(0, .ptr), (1, .sl), (4, .addr)] [] [(1, 2), (5, 6), (7, 215)] (fun x w => digest_wide_l0 K K x.1 x.2.1 x.2.2.1 w)
theorem digest_wide_l0_se_ok (K : Nat) (R : Rg) (h : subRB [(1, 2), (5, 6), (7, 215)] R = true) : (digest_wide_l0_se K).Ok prog R (.block 0 (.loop (cd (bodyOf f47) [1, 0, 0]))) := stmtN_ok (Li := [(0, .ptr), (1, .sl), (4, .addr)]) (Lo := []) (S := (fun x w => digest_wide_l0 K K x.1 x.2.1 x.2.2.1 w)) (digest_wide_l0_ok K K) (subR_of h)
theorem digest_wide_facts : FunFacts prog 47 f47 (bodyOf f47) [(0, .ptr), (1, .sl)] [(0, 215)] := ⟨func47, by kernel_rfl, by kernel_rfl, by kernel_rfl, by kernel_rfl, by kernel_rfl⟩
theorem digest_wide_calls (K : Nat) (x : TT [(0, .ptr), (1, .sl)]) (w : World) (y : TR []) (w2 : World) (h : digest_wide K x.1 x.2.1 w = some (y, w2)) : Calls prog 47 (encA [(0, .ptr), (1, .sl)] x).toArray w (fun e w3 => e = .returned (resV (encR [] y)) ∧ w3 = w2) :=
    mk_fun (O := tabL [([1], digest_wide_l0_se K), ([1, 0, 0, 1, 0, 0, 0, 1], digest_wide_l1_se K), ([1, 0, 0, 1, 0, 0, 0, 1, 0, 0, 1, 1, 0, 0, 1, 1], digest_wide_l2_se K), ([1, 0, 0, 1, 0, 0, 1, 0, 1], digest_wide_l3_se K), ([1, 0, 0, 1, 0, 0, 1, 1, 1, 0, 1], digest_wide_l4_se K), ([1, 0, 0, 1, 0, 0, 1, 1, 1, 1, 1], digest_wide_l5_se K)]) (Lp := [(0, .ptr), (1, .sl)]) (Rt := []) (S := (fun x w => digest_wide K x.1 x.2.1 w)) (digest_wide_Eok K) (digest_wide_Rok K) rfl digest_wide_facts (Orc.cons (by kernel_rfl) (digest_wide_l0_se_ok K [(0, 215)] (by kernel_rfl)) (Orc.cons (by kernel_rfl) (digest_wide_l1_se_ok K [(0, 215)] (by kernel_rfl)) (Orc.cons (by kernel_rfl) (digest_wide_l2_se_ok K [(0, 215)] (by kernel_rfl)) (Orc.cons (by kernel_rfl) (digest_wide_l3_se_ok K [(0, 215)] (by kernel_rfl)) (Orc.cons (by kernel_rfl) (digest_wide_l4_se_ok K [(0, 215)] (by kernel_rfl)) (Orc.cons (by kernel_rfl) (digest_wide_l5_se_ok K [(0, 215)] (by kernel_rfl)) (Orc.nil _ _ _))))))) (fun _ _ => by kernel_rfl) x w y w2 h
noncomputable def digest_wide_ce (K : Nat) : CE := funE [(0, .ptr), (1, .sl)] [] (fun x w => digest_wide K x.1 x.2.1 w)
theorem digest_wide_ok (K : Nat) : (digest_wide_ce K).Ok prog 47 := funE_ok (Rt := []) (S := (fun x w => digest_wide K x.1 x.2.1 w)) digest_wide_facts fun x w y w2 h => digest_wide_calls K x w y w2 h

noncomputable def bits_RotateLeft32_R : List (Nat × RE) := []
theorem bits_RotateLeft32_Rok : REnv.Ok prog (tab (bits_RotateLeft32_R)) := (REnv.nil _)
/-- math/bits.RotateLeft32 -/
noncomputable def bits_RotateLeft32 (x0 : Int) (k1 : Int) : Option (Int × Unit) :=
  if (0 : Int) ≤ (bits .and .u64 (IntKind.u64.wrap k1) 31) then (if (0 : Int) ≤ (IntKind.u64.wrap (32 - (bits .and .u64 (IntKind.u64.wrap k1) 31))) then (some ((bits .or .u32 (IntKind.u32.wrap (x0 * 2 ^ (min (Int.toNat (bits .and .u64 (IntKind.u64.wrap k1) 31)) IntKind.u32.bits))) (Int.fdiv x0 (2 ^ (min (Int.toNat (IntKind.u64.wrap (32 - (bits .and .u64 (IntKind.u64.wrap k1) 31)))) IntKind.u32.bits)))), ())) else none) else none
theorem bits_RotateLeft32_facts : FunFacts prog 55 f55 (bodyOf f55) [(0, .int .u32), (1, .int .i64)] [(0, 17)] := ⟨func55, by kernel_rfl, by kernel_rfl, by kernel_rfl, by kernel_rfl, by kernel_rfl⟩
theorem bits_RotateLeft32_calls (x : TT [(0, .int .u32), (1, .int .i64)]) (w : World) (y : TR [.int .u32]) (h : bits_RotateLeft32 x.1 x.2.1 = some y) : Calls prog 55 (encA [(0, .int .u32), (1, .int .i64)] x).toArray w (fun e w3 => e = .returned (resV (encR [.int .u32] y)) ∧ w3 = w) :=
    mk_funQ (O := tabL []) (Lp := [(0, .int .u32), (1, .int .i64)]) (Rt := [.int .u32]) (S := (fun x w => bits_RotateLeft32 x.1 x.2.1)) (bits_RotateLeft32_Rok) bits_RotateLeft32_facts (OrcQ.nil _ _ _) (fun _ _ => by kernel_rfl) x w y h
noncomputable def bits_RotateLeft32_re : RE := funR [(0, .int .u32), (1, .int .i64)] [.int .u32] (fun x w => bits_RotateLeft32 x.1 x.2.1)
theorem bits_RotateLeft32_ok : (bits_RotateLeft32_re).Ok prog 55 := funR_ok (Rt := [.int .u32]) (S := (fun x w => bits_RotateLeft32 x.1 x.2.1)) bits_RotateLeft32_facts fun x w y h => bits_RotateLeft32_calls x w y h

noncomputable def digest_narrow_E (K : Nat) : List (Nat × CE) := []
theorem digest_narrow_Eok (K : Nat) : Env.Ok prog (tab (digest_narrow_E K)) := (Env.nil _)
noncomputable def digest_narrow_R (K : Nat) : List (Nat × RE) := [(55, bits_RotateLeft32_re)]
theorem digest_narrow_Rok (K : Nat) : REnv.Ok prog (tab (digest_narrow_R K)) := (REnv.cons (bits_RotateLeft32_ok) (REnv.nil _))
noncomputable def digest_narrow_l1_b (K : Nat) (rec : Option Addr → Sl → Addr → Int → World → Option ((Unit) × World)) (h0 : Option Addr) (b1 : Sl) (w4 : Addr) (a31 : Int) (w : World) : Option ((Unit) × World) :=
  if (decide (a31 < 16)) = true then (if (0 : Int) ≤ (IntKind.i64.wrap ((IntKind.i64.wrap (4 * a31)) + 4)) ∧ (IntKind.i64.wrap ((IntKind.i64.wrap (4 * a31)) + 4)) ≤ ((b1.cap : Nat) : Int) then (if (0 : Int) ≤ (IntKind.i64.wrap (4 * a31)) ∧ (IntKind.i64.wrap (4 * a31)) ≤ (((Int.toNat ((IntKind.i64.wrap ((IntKind.i64.wrap (4 * a31)) + 4)))) : Nat) : Int) then (((sla b1.a (Int.toNat ((IntKind.i64.wrap (4 * a31)))) b1.cap 1)).bind fun p_3 =>
  if (0 : Int) ≤ 0 ∧ 0 < ((((Int.toNat ((IntKind.i64.wrap ((IntKind.i64.wrap (4 * a31)) + 4)))) - (Int.toNat ((IntKind.i64.wrap (4 * a31))))) : Nat) : Int) then (((sla b1.a (Int.toNat ((IntKind.i64.wrap (4 * a31)))) b1.cap 1)).bind fun p_4 =>
  if (0 : Int) ≤ 1 ∧ 1 < ((((Int.toNat ((IntKind.i64.wrap ((IntKind.i64.wrap (4 * a31)) + 4)))) - (Int.toNat ((IntKind.i64.wrap (4 * a31))))) : Nat) : Int) then (((sla b1.a (Int.toNat ((IntKind.i64.wrap (4 * a31)))) b1.cap 1)).bind fun p_5 =>
  if (0 : Int) ≤ 2 ∧ 2 < ((((Int.toNat ((IntKind.i64.wrap ((IntKind.i64.wrap (4 * a31)) + 4)))) - (Int.toNat ((IntKind.i64.wrap (4 * a31))))) : Nat) : Int) then (((sla b1.a (Int.toNat ((IntKind.i64.wrap (4 * a31)))) b1.cap 1)).bind fun p_6 =>
  if (0 : Int) ≤ 3 ∧ 3 < ((((Int.toNat ((IntKind.i64.wrap ((IntKind.i64.wrap (4 * a31)) + 4)))) - (Int.toNat ((IntKind.i64.wrap (4 * a31))))) : Nat) : Int) then ((ldI .u8 (p_3.add (0 * 1)) w.drew).bind fun v_7 =>
  (ldI .u8 (p_4.add (1 * 1)) w.drew).bind fun v_8 =>
  (ldI .u8 (p_5.add (2 * 1)) w.drew).bind fun v_9 =>
  (ldI .u8 (p_6.add (3 * 1)) w.drew).bind fun v_10 =>
  if (0 : Int) ≤ a31 ∧ a31 < ((64 : Nat) : Int) then ((stC (w4.add ((Int.toNat a31) * 1)) (.int .u32 (bits .or .u32 (bits .or .u32 (bits .or .u32 (IntKind.u32.wrap ((IntKind.u32.wrap v_7) * 2 ^ 24)) (IntKind.u32.wrap ((IntKind.u32.wrap v_8) * 2 ^ 16))) (IntKind.u32.wrap ((IntKind.u32.wrap v_9) * 2 ^ 8))) (IntKind.u32.wrap v_10))) w.drew).bind fun w_11 =>
  rec h0 b1 w4 (IntKind.i64.wrap (a31 + 1)) w_11) else none) else none) else none) else none) else none) else none) else none) else (some ((), w))
noncomputable def digest_narrow_l1 (K : Nat) (n : Nat) : Option Addr → Sl → Addr → Int → World → Option ((Unit) × World) := iter (fun _ _ _ _ _ => none) (digest_narrow_l1_b K) n
noncomputable def digest_narrow_l2_b (K : Nat) (rec : Option Addr → Sl → Addr → Int → World → Option ((Unit) × World)) (h0 : Option Addr) (b1 : Sl) (w4 : Addr) (i7 : Int) (w : World) : Option ((Unit) × World) :=
  if (decide (i7 < 64)) = true then (if (0 : Int) ≤ (IntKind.i64.wrap (i7 - 15)) ∧ (IntKind.i64.wrap (i7 - 15)) < ((64 : Nat) : Int) then (if (0 : Int) ≤ (IntKind.i64.wrap (i7 - 2)) ∧ (IntKind.i64.wrap (i7 - 2)) < ((64 : Nat) : Int) then ((ldI .u32 (w4.add ((Int.toNat (IntKind.i64.wrap (i7 - 15))) * 1)) w.drew).bind fun v_14 =>
  (ldI .u32 (w4.add ((Int.toNat (IntKind.i64.wrap (i7 - 2))) * 1)) w.drew).bind fun v_15 =>
  if (0 : Int) ≤ (IntKind.i64.wrap (i7 - 16)) ∧ (IntKind.i64.wrap (i7 - 16)) < ((64 : Nat) : Int) then (if (0 : Int) ≤ (IntKind.i64.wrap (i7 - 7)) ∧ (IntKind.i64.wrap (i7 - 7)) < ((64 : Nat) : Int) then ((ldI .u32 (w4.add ((Int.toNat (IntKind.i64.wrap (i7 - 16))) * 1)) w.drew.drew).bind fun v_16 =>
  (ldI .u32 (w4.add ((Int.toNat (IntKind.i64.wrap (i7 - 7))) * 1)) w.drew.drew).bind fun v_17 =>
  (bits_RotateLeft32 v_14 (-7)).bind fun r_18 =>
  (bits_RotateLeft32 v_14 (-18)).bind fun r_19 =>
  (bits_RotateLeft32 v_15 (-17)).bind fun r_20 =>
  (bits_RotateLeft32 v_15 (-19)).bind fun r_21 =>
  if (0 : Int) ≤ i7 ∧ i7 < ((64 : Nat) : Int) then ((stC (w4.add ((Int.toNat i7) * 1)) (.int .u32 (IntKind.u32.wrap ((IntKind.u32.wrap ((IntKind.u32.wrap (v_16 + v_17)) + (bits .xor .u32 (bits .xor .u32 r_18.1 r_19.1) (Int.fdiv v_14 (2 ^ 3))))) + (bits .xor .u32 (bits .xor .u32 r_20.1 r_21.1) (Int.fdiv v_15 (2 ^ 10)))))) w.drew.drew).bind fun w_22 =>
  rec h0 b1 w4 (IntKind.i64.wrap (i7 + 1)) w_22) else none) else none) else none) else none) else none) else (some ((), w))
noncomputable def digest_narrow_l2 (K : Nat) (n : Nat) : Option Addr → Sl → Addr → Int → World → Option ((Unit) × World) := iter (fun _ _ _ _ _ => none) (digest_narrow_l2_b K) n
noncomputable def digest_narrow_l3_b (K : Nat) (rec : Option Addr → Sl → Addr → Addr → Int → World → Option ((Unit) × World)) (h0 : Option Addr) (b1 : Sl) (w4 : Addr) (v10 : Addr) (a107 : Int) (w : World) : Option ((Unit) × World) :=
  if (decide (a107 < 8)) = true then ((h0).bind fun p_27 =>
  if (0 : Int) ≤ a107 ∧ a107 < ((8 : Nat) : Int) then ((ldI .u64 (p_27.add ((Int.toNat a107) * 1)) w).bind fun v_28 =>
  if (0 : Int) ≤ a107 ∧ a107 < ((8 : Nat) : Int) then ((stC (v10.add ((Int.toNat a107) * 1)) (.int .u32 (IntKind.u32.wrap v_28)) w).bind fun w_29 =>
  rec h0 b1 w4 v10 (IntKind.i64.wrap (a107 + 1)) w_29) else none) else none) else (some ((), w))
noncomputable def digest_narrow_l3 (K : Nat) (n : Nat) : Option Addr → Sl → Addr → Addr → Int → World → Option ((Unit) × World) := iter (fun _ _ _ _ _ _ => none) (digest_narrow_l3_b K) n
noncomputable def digest_narrow_l4_b (K : Nat) (rec : Option Addr → Sl → Addr → Addr → Int → Int → Int → Int → Int → Int → Int → Int → Int → World → Option ((Int × Int × Int × Int × Int × Int × Int × Int × Unit) × World)) (h0 : Option Addr) (b1 : Sl) (w4 : Addr) (v10 : Addr) (a12 : Int) (b113 : Int) (c14 : Int) (d15 : Int) (e16 : Int) (f17 : Int) (g18 : Int) (k19 : Int) (a135 : Int) (w : World) : Option ((Int × Int × Int × Int × Int × Int × Int × Int × Unit) × World) :=
  if (decide (a135 < 64)) = true then (if (0 : Int) ≤ a135 ∧ a135 < ((80 : Nat) : Int) then ((ldI .u64 ((⟨1, 0, none⟩ : Addr).add ((Int.toNat a135) * 1)) w).bind fun v_40 =>
  if (0 : Int) ≤ a135 ∧ a135 < ((64 : Nat) : Int) then ((bits_RotateLeft32 e16 (-6)).bind fun r_41 =>
  (bits_RotateLeft32 e16 (-11)).bind fun r_42 =>
  (bits_RotateLeft32 e16 (-25)).bind fun r_43 =>
  (ldI .u32 (w4.add ((Int.toNat a135) * 1)) w.drew).bind fun v_44 =>
  (bits_RotateLeft32 a12 (-2)).bind fun r_45 =>
  (bits_RotateLeft32 a12 (-13)).bind fun r_46 =>
  (bits_RotateLeft32 a12 (-22)).bind fun r_47 =>
  rec h0 b1 w4 v10 (IntKind.u32.wrap ((IntKind.u32.wrap ((IntKind.u32.wrap ((IntKind.u32.wrap ((IntKind.u32.wrap (k19 + (bits .xor .u32 (bits .xor .u32 r_41.1 r_42.1) r_43.1))) + (bits .xor .u32 (bits .and .u32 e16 f17) (bits .and .u32 (bits .xor .u32 IntKind.u32.max e16) g18)))) + (IntKind.u32.wrap (Int.fdiv v_40 (2 ^ 32))))) + v_44)) + (IntKind.u32.wrap ((bits .xor .u32 (bits .xor .u32 r_45.1 r_46.1) r_47.1) + (bits .xor .u32 (bits .xor .u32 (bits .and .u32 a12 b113) (bits .and .u32 a12 c14)) (bits .and .u32 b113 c14)))))) a12 b113 c14 (IntKind.u32.wrap (d15 + (IntKind.u32.wrap ((IntKind.u32.wrap ((IntKind.u32.wrap ((IntKind.u32.wrap (k19 + (bits .xor .u32 (bits .xor .u32 r_41.1 r_42.1) r_43.1))) + (bits .xor .u32 (bits .and .u32 e16 f17) (bits .and .u32 (bits .xor .u32 IntKind.u32.max e16) g18)))) + (IntKind.u32.wrap (Int.fdiv v_40 (2 ^ 32))))) + v_44)))) e16 f17 g18 (IntKind.i64.wrap (a135 + 1)) w.drew) else none) else none) else (some ((a12, b113, c14, d15, e16, f17, g18, k19, ()), w))
noncomputable def digest_narrow_l4 (K : Nat) (n : Nat) : Option Addr → Sl → Addr → Addr → Int → Int → Int → Int → Int → Int → Int → Int → Int → World → Option ((Int × Int × Int × Int × Int × Int × Int × Int × Unit) × World) := iter (fun _ _ _ _ _ _ _ _ _ _ _ _ _ _ => none) (digest_narrow_l4_b K) n
noncomputable def digest_narrow_l5_b (K : Nat) (rec : Option Addr → Sl → Addr → Addr → Array Value → Int → World → Option ((Unit) × World)) (h0 : Option Addr) (b1 : Sl) (w4 : Addr) (v10 : Addr) (a209 : Array Value) (a210 : Int) (w : World) : Option ((Unit) × World) :=
  if (decide (a210 < 8)) = true then (if (0 : Int) ≤ a210 ∧ a210 < ((8 : Nat) : Int) then ((a209[((Int.toNat a210) * 1)]?).bind fun v_51 =>
  (asI .u32 v_51).bind fun v_52 =>
  if (0 : Int) ≤ a210 ∧ a210 < ((8 : Nat) : Int) then ((h0).bind fun p_53 =>
  (ldI .u32 (v10.add ((Int.toNat a210) * 1)) w.drew).bind fun v_54 =>
  if (0 : Int) ≤ a210 ∧ a210 < ((8 : Nat) : Int) then ((stC (p_53.add ((Int.toNat a210) * 1)) (.int .u64 (IntKind.u64.wrap (IntKind.u32.wrap (v_54 + v_52)))) w.drew).bind fun w_55 =>
  rec h0 b1 w4 v10 a209 (IntKind.i64.wrap (a210 + 1)) w_55) else none) else none) else none) else (some ((), w))
noncomputable def digest_narrow_l5 (K : Nat) (n : Nat) : Option Addr → Sl → Addr → Addr → Array Value → Int → World → Option ((Unit) × World) := iter (fun _ _ _ _ _ _ _ => none) (digest_narrow_l5_b K) n
noncomputable def digest_narrow_l0_b (K : Nat) (rec : Option Addr → Sl → Addr → World → Option ((Unit) × World)) (h0 : Option Addr) (b1 : Sl) (w4 : Addr) (w : World) : Option ((Unit) × World) :=
  if (decide (((b1.len : Nat) : Int) ≥ 64)) = true then (bnd (digest_narrow_l1 K K h0 b1 w4 0 w) fun y_12 w_13 =>
  bnd (digest_narrow_l2 K K h0 b1 w4 16 w_13) fun y_23 w_24 =>
  bnd (newB z102 102 w_24) fun v_25 w_26 =>
  bnd (digest_narrow_l3 K K h0 b1 w4 v_25 0 w_26) fun y_30 w_31 =>
  (ldI .u32 (v_25.add (0 * 1)) w_31.drew).bind fun v_32 =>
  (ldI .u32 (v_25.add (1 * 1)) w_31.drew).bind fun v_33 =>
  (ldI .u32 (v_25.add (2 * 1)) w_31.drew).bind fun v_34 =>
  (ldI .u32 (v_25.add (3 * 1)) w_31.drew).bind fun v_35 =>
  (ldI .u32 (v_25.add (4 * 1)) w_31.drew).bind fun v_36 =>
  (ldI .u32 (v_25.add (5 * 1)) w_31.drew).bind fun v_37 =>
  (ldI .u32 (v_25.add (6 * 1)) w_31.drew).bind fun v_38 =>
  (ldI .u32 (v_25.add (7 * 1)) w_31.drew).bind fun v_39 =>
  bnd (digest_narrow_l4 K K h0 b1 w4 v_25 v_32 v_33 v_34 v_35 v_36 v_37 v_38 v_39 0 w_31.drew) fun y_48 w_49 =>
  (prog.built 102 [(0, (.int .u32 y_48.1)), (1, (.int .u32 y_48.2.1)), (2, (.int .u32 y_48.2.2.1)), (3, (.int .u32 y_48.2.2.2.1)), (4, (.int .u32 y_48.2.2.2.2.1)), (5, (.int .u32 y_48.2.2.2.2.2.1)), (6, (.int .u32 y_48.2.2.2.2.2.2.1)), (7, (.int .u32 y_48.2.2.2.2.2.2.2.1))]).bind fun cs_50 =>
  bnd (digest_narrow_l5 K K h0 b1 w4 v_25 cs_50 0 w_49) fun y_56 w_57 =>
  if (0 : Int) ≤ 64 ∧ 64 ≤ ((b1.len : Nat) : Int) then (rec h0 ⟨(sla b1.a 64 b1.cap 1), (b1.len - 64), (b1.cap - 64)⟩ w4 w_57) else none) else (some ((), w))
noncomputable def digest_narrow_l0 (K : Nat) (n : Nat) : Option Addr → Sl → Addr → World → Option ((Unit) × World) := iter (fun _ _ _ _ => none) (digest_narrow_l0_b K) n
/-- coffer/digest.narrow -/
noncomputable def digest_narrow (K : Nat) (h0 : Option Addr) (b1 : Sl) (w : World) : Option ((Unit) × World) :=
  bnd (newB z100 100 w) fun w_1 w_2 =>
  bnd (digest_narrow_l0 K K h0 b1 w_1 w_2) fun y_58 w_59 =>
  some ((), w_59)
theorem digest_narrow_l1_ok (K : Nat) (n : Nat) : StmtNOk prog [(0, .ptr), (1, .sl), (4, .addr), (31, .int .i64)] [] [(5, 7), (31, 66)] ((fun n x w => digest_narrow_l1 K n x.1 x.2.1 x.2.2.1 x.2.2.2.1 w) n) (.block 2 (.loop (cd (bodyOf f46) [1, 0, 0, 1, 0, 0, 0, 1, 0, 0]))) :=
    mk_loopN (O := tabL []) (root := (bodyOf f46)) (π := [1, 0, 0, 1, 0, 0, 0, 1, 0, 0]) (id := 2) (Li := [(0, .ptr), (1, .sl), (4, .addr), (31, .int .i64)]) (Lo := []) (S := (fun n x w => digest_narrow_l1 K n x.1 x.2.1 x.2.2.1 x.2.2.2.1 w)) (body := cd (bodyOf f46) [1, 0, 0, 1, 0, 0, 0, 1, 0, 0]) (digest_narrow_Eok K) (digest_narrow_Rok K) rfl (Orc.nil _ _ _) (by kernel_rfl) (fun _ _ => by kernel_rfl) (fun _ _ _ => by kernel_rfl) n
noncomputable def digest_narrow_l1_se (K : Nat) : SE := stmtN [(0, .ptr), (1, .sl), (4, .addr), (31, .int .i64)] [] [(5, 7), (31, 66)] (fun x w => digest_narrow_l1 K K x.1 x.2.1 x.2.2.1 x.2.2.2.1 w)
theorem digest_narrow_l1_se_ok (K : Nat) (R : Rg) (h : subRB [(5, 7), (31, 66)] R = true) : (digest_narrow_l1_se K).Ok prog R (.block 2 (.loop (cd (bodyOf f46) [1, 0, 0, 1, 0, 0, 0, 1, 0, 0]))) := stmtN_ok (Li := [(0, .ptr), (1, .sl), (4, .addr), (31, .int .i64)]) (Lo := []) (S := (fun x w => digest_narrow_l1 K K x.1 x.2.1 x.2.2.1 x.2.2.2.1 w)) (digest_narrow_l1_ok K K) (subR_of h)
theorem digest_narrow_l2_ok (K : Nat) (n : Nat) : StmtNOk prog [(0, .ptr), (1, .sl), (4, .addr), (7, .int .i64)] [] [(7, 10), (66, 107)] ((fun n x w => digest_narrow_l2 K n x.1 x.2.1 x.2.2.1 x.2.2.2.1 w) n) (.block 4 (.loop (cd (bodyOf f46) [1, 0, 0, 1, 0, 0, 1, 0, 1, 0, 0]))) :=
    mk_loopN (O := tabL []) (root := (bodyOf f46)) (π := [1, 0, 0, 1, 0, 0, 1, 0, 1, 0, 0]) (id := 4) (Li := [(0, .ptr), (1, .sl), (4, .addr), (7, .int .i64)]) (Lo := []) (S := (fun n x w => digest_narrow_l2 K n x.1 x.2.1 x.2.2.1 x.2.2.2.1 w)) (body := cd (bodyOf f46) [1, 0, 0, 1, 0, 0, 1, 0, 1, 0, 0]) (digest_narrow_Eok K) (digest_narrow_Rok K) rfl (Orc.nil _ _ _) (by kernel_rfl) (fun _ _ => by kernel_rfl) (fun _ _ _ => by kernel_rfl) n
noncomputable def digest_narrow_l2_se (K : Nat) : SE := stmtN [(0, .ptr), (1, .sl), (4, .addr), (7, .int .i64)] [] [(7, 10), (66, 107)] (fun x w => digest_narrow_l2 K K x.1 x.2.1 x.2.2.1 x.2.2.2.1 w)
theorem digest_narrow_l2_se_ok (K : Nat) (R : Rg) (h : subRB [(7, 10), (66, 107)] R = true) : (digest_narrow_l2_se K).Ok prog R (.block 4 (.loop (cd (bodyOf f46) [1, 0, 0, 1, 0, 0, 1, 0, 1, 0, 0]))) := stmtN_ok (Li := [(0, .ptr), (1, .sl), (4, .addr), (7, .int .i64)]) (Lo := []) (S := (fun x w => digest_narrow_l2 K K x.1 x.2.1 x.2.2.1 x.2.2.2.1 w)) (digest_narrow_l2_ok K K) (subR_of h)
theorem digest_narrow_l3_ok (K : Nat) (n : Nat) : StmtNOk prog [(0, .ptr), (1, .sl), (4, .addr), (10, .addr), (107, .int .i64)] [] [(11, 12), (107, 119)] ((fun n x w => digest_narrow_l3 K n x.1 x.2.1 x.2.2.1 x.2.2.2.1 x.2.2.2.2.1 w) n) (.block 6 (.loop (cd (bodyOf f46) [1, 0, 0, 1, 0, 0, 1, 1, 1, 0, 1, 0, 0]))) :=
    mk_loopN (O := tabL []) (root := (bodyOf f46)) (π := [1, 0, 0, 1, 0, 0, 1, 1, 1, 0, 1, 0, 0]) (id := 6) (Li := [(0, .ptr), (1, .sl), (4, .addr), (10, .addr), (107, .int .i64)]) (Lo := []) (S := (fun n x w => digest_narrow_l3 K n x.1 x.2.1 x.2.2.1 x.2.2.2.1 x.2.2.2.2.1 w)) (body := cd (bodyOf f46) [1, 0, 0, 1, 0, 0, 1, 1, 1, 0, 1, 0, 0]) (digest_narrow_Eok K) (digest_narrow_Rok K) rfl (Orc.nil _ _ _) (by kernel_rfl) (fun _ _ => by kernel_rfl) (fun _ _ _ => by kernel_rfl) n
noncomputable def digest_narrow_l3_se (K : Nat) : SE := stmtN [(0, .ptr), (1, .sl), (4, .addr), (10, .addr), (107, .int .i64)] [] [(11, 12), (107, 119)] (fun x w => digest_narrow_l3 K K x.1 x.2.1 x.2.2.1 x.2.2.2.1 x.2.2.2.2.1 w)
theorem digest_narrow_l3_se_ok (K : Nat) (R : Rg) (h : subRB [(11, 12), (107, 119)] R = true) : (digest_narrow_l3_se K).Ok prog R (.block 6 (.loop (cd (bodyOf f46) [1, 0, 0, 1, 0, 0, 1, 1, 1, 0, 1, 0, 0]))) := stmtN_ok (Li := [(0, .ptr), (1, .sl), (4, .addr), (10, .addr), (107, .int .i64)]) (Lo := []) (S := (fun x w => digest_narrow_l3 K K x.1 x.2.1 x.2.2.1 x.2.2.2.1 x.2.2.2.2.1 w)) (digest_narrow_l3_ok K K) (subR_of h)
theorem digest_narrow_l4_ok (K : Nat) (n : Nat) : StmtNOk prog [(0, .ptr), (1, .sl), (4, .addr), (10, .addr), (12, .int .u32), (13, .int .u32), (14, .int .u32), (15, .int .u32), (16, .int .u32), (17, .int .u32), (18, .int .u32), (19, .int .u32), (135, .int .i64)] [(12, .int .u32), (13, .int .u32), (14, .int .u32), (15, .int .u32), (16, .int .u32), (17, .int .u32), (18, .int .u32), (19, .int .u32)] [(12, 24), (135, 201)] ((fun n x w => digest_narrow_l4 K n x.1 x.2.1 x.2.2.1 x.2.2.2.1 x.2.2.2.2.1 x.2.2.2.2.2.1 x.2.2.2.2.2.2.1 x.2.2.2.2.2.2.2.1 x.2.2.2.2.2.2.2.2.1 x.2.2.2.2.2.2.2.2.2.1 x.2.2.2.2.2.2.2.2.2.2.1 x.2.2.2.2.2.2.2.2.2.2.2.1 x.2.2.2.2.2.2.2.2.2.2.2.2.1 w) n) (.block 8 (.loop (cd (bodyOf f46) [1, 0, 0, 1, 0, 0, 1, 1, 1, 1, 1, 0, 1, 0, 0]))) :=
    mk_loopN (O := tabL []) (root := (bodyOf f46)) (π := [1, 0, 0, 1, 0, 0, 1, 1, 1, 1, 1, 0, 1, 0, 0]) (id := 8) (Li := [(0, .ptr), (1, .sl), (4, .addr), (10, .addr), (12, .int .u32), (13, .int .u32), (14, .int .u32), (15, .int .u32), (16, .int .u32), (17, .int .u32), (18, .int .u32), (19, .int .u32), (135, .int .i64)]) (Lo := [(12, .int .u32), (13, .int .u32), (14, .int .u32), (15, .int .u32), (16, .int .u32), (17, .int .u32), (18, .int .u32), (19, .int .u32)]) (S := (fun n x w => digest_narrow_l4 K n x.1 x.2.1 x.2.2.1 x.2.2.2.1 x.2.2.2.2.1 x.2.2.2.2.2.1 x.2.2.2.2.2.2.1 x.2.2.2.2.2.2.2.1 x.2.2.2.2.2.2.2.2.1 x.2.2.2.2.2.2.2.2.2.1 x.2.2.2.2.2.2.2.2.2.2.1 x.2.2.2.2.2.2.2.2.2.2.2.1 x.2.2.2.2.2.2.2.2.2.2.2.2.1 w)) (body := cd (bodyOf f46) [1, 0, 0, 1, 0, 0, 1, 1, 1, 1, 1, 0, 1, 0, 0]) (digest_narrow_Eok K) (digest_narrow_Rok K) rfl (Orc.nil _ _ _) (by kernel_rfl) (fun _ _ => by kernel_rfl) (fun _ _ _ => by kernel_rfl) n
noncomputable def digest_narrow_l4_se (K : Nat) : SE := stmtN [(0, .ptr), (1, .sl), (4, .addr), (10, .addr), (12, .int .u32), (13, .int .u32), (14, .int .u32), (15, .int .u32), (16, .int .u32), (17, .int .u32), (18, .int .u32), (19, .int .u32), (135, .int .i64)] [(12, .int .u32), (13, .int .u32), (14, .int .u32), (15, .int .u32), (16, .int .u32), (17, .int .u32), (18, .int .u32), (19, .int .u32)] [(12, 24), (135, 201)] (fun x w => digest_narrow_l4 K K x.1 x.2.1 x.2.2.1 x.2.2.2.1 x.2.2.2.2.1 x.2.2.2.2.2.1 x.2.2.2.2.2.2.1 x.2.2.2.2.2.2.2.1 x.2.2.2.2.2.2.2.2.1 x.2.2.2.2.2.2.2.2.2.1 x.2.2.2.2.2.2.2.2.2.2.1 x.2.2.2.2.2.2.2.2.2.2.2.1 x.2.2.2.2.2.2.2.2.2.2.2.2.1 w)
theorem digest_narrow_l4_se_ok (K : Nat) (R : Rg) (h : subRB [(12, 24), (135, 201)] R = true) : (digest_narrow_l4_se K).Ok prog R (.block 8 (.loop (cd (bodyOf f46) [1, 0, 0, 1, 0, 0, 1, 1, 1, 1, 1, 0, 1, 0, 0]))) := stmtN_ok (Li := [(0, .ptr), (1, .sl), (4, .addr), (10, .addr), (12, .int .u32), (13, .int .u32), (14, .int .u32), (15, .int .u32), (16, .int .u32), (17, .int .u32), (18, .int .u32), (19, .int .u32), (135, .int .i64)]) (Lo := [(12, .int .u32), (13, .int .u32), (14, .int .u32), (15, .int .u32), (16, .int .u32), (17, .int .u32), (18, .int .u32), (19, .int .u32)]) (S := (fun x w => digest_narrow_l4 K K x.1 x.2.1 x.2.2.1 x.2.2.2.1 x.2.2.2.2.1 x.2.2.2.2.2.1 x.2.2.2.2.2.2.1 x.2.2.2.2.2.2.2.1 x.2.2.2.2.2.2.2.2.1 x.2.2.2.2.2.2.2.2.2.1 x.2.2.2.2.2.2.2.2.2.2.1 x.2.2.2.2.2.2.2.2.2.2.2.1 x.2.2.2.2.2.2.2.2.2.2.2.2.1 w)) (digest_narrow_l4_ok K K) (subR_of h)
theorem digest_narrow_l5_ok (K : Nat) (n : Nat) : StmtNOk prog [(0, .ptr), (1, .sl), (4, .addr), (10, .addr), (209, .agg), (210, .int .i64)] [] [(24, 26), (210, 225)] ((fun n x w => digest_narrow_l5 K n x.1 x.2.1 x.2.2.1 x.2.2.2.1 x.2.2.2.2.1 x.2.2.2.2.2.1 w) n) (.block 10 (.loop (cd (bodyOf f46) [1, 0, 0, 1, 0, 0, 1, 1, 1, 1, 1, 1, 1, 0, 0]))) :=
    mk_loopN (O := tabL []) (root := (bodyOf f46)) (π := [1, 0, 0, 1, 0, 0, 1, 1, 1, 1, 1, 1, 1, 0, 0]) (id := 10) (Li := [(0, .ptr), (1, .sl), (4, .addr), (10, .addr), (209, .agg), (210, .int .i64)]) (Lo := []) (S := (fun n x w => digest_narrow_l5 K n x.1 x.2.1 x.2.2.1 x.2.2.2.1 x.2.2.2.2.1 x.2.2.2.2.2.1 w)) (body := cd (bodyOf f46) [1, 0, 0, 1, 0, 0, 1, 1, 1, 1, 1, 1, 1, 0, 0]) (digest_narrow_Eok K) (digest_narrow_Rok K) rfl (Orc.nil _ _ _) (by kernel_rfl) (fun _ _ => by kernel_rfl) (fun _ _ _ => by kernel_rfl) n
noncomputable def digest_narrow_l5_se (K : Nat) : SE := stmtN [(0, .ptr), (1, .sl), (4, .addr), (10, .addr), (209, .agg), (210, .int .i64)] [] [(24, 26), (210, 225)] (fun x w => digest_narrow_l5 K K x.1 x.2.1 x.2.2.1 x.2.2.2.1 x.2.2.2.2.1 x.2.2.2.2.2.1 w)
theorem digest_narrow_l5_se_ok (K : Nat) (R : Rg) (h : subRB [(24, 26), (210, 225)] R = true) : (digest_narrow_l5_se K).Ok prog R (.block 10 (.loop (cd (bodyOf f46) [1, 0, 0, 1, 0, 0, 1, 1, 1, 1, 1, 1, 1, 0, 0]))) := stmtN_ok (Li := [(0, .ptr), (1, .sl), (4, .addr), (10, .addr), (209, .agg), (210, .int .i64)]) (Lo := []) (S := (fun x w => digest_narrow_l5 K K x.1 x.2.1 x.2.2.1 x.2.2.2.1 x.2.2.2.2.1 x.2.2.2.2.2.1 w)) (digest_narrow_l5_ok K K) (subR_of h)
theorem digest_narrow_l0_ok (K : Nat) (n : Nat) : StmtNOk prog [(0, .ptr), (1, .sl), (4, .addr)] [] [(1, 2), (5, 225)] ((fun n x w => digest_narrow_l0 K n x.1 x.2.1 x.2.2.1 w) n) (.block 0 (.loop (cd (bodyOf f46) [1, 0, 0]))) :=
    mk_loopN (O := tabL [([1, 0, 0, 1, 0, 0, 0, 1], digest_narrow_l1_se K), ([1, 0, 0, 1, 0, 0, 1, 0, 1], digest_narrow_l2_se K), ([1, 0, 0, 1, 0, 0, 1, 1, 1, 0, 1], digest_narrow_l3_se K), ([1, 0, 0, 1, 0, 0, 1, 1, 1, 1, 1, 0, 1], digest_narrow_l4_se K), ([1, 0, 0, 1, 0, 0, 1, 1, 1, 1, 1, 1, 1], digest_narrow_l5_se K)]) (root := (bodyOf f46)) (π := [1, 0, 0]) (id := 0) (Li := [(0, .ptr), (1, .sl), (4, .addr)]) (Lo := []) (S := (fun n x w => digest_narrow_l0 K n x.1 x.2.1 x.2.2.1 w)) (body := cd (bodyOf f46) [1, 0, 0]) (digest_narrow_Eok K) (digest_narrow_Rok K) rfl (Orc.cons (by kernel_rfl) (digest_narrow_l1_se_ok K [(1, 2), (5, 225)] (by kernel_rfl)) (Orc.cons (by kernel_rfl) (digest_narrow_l2_se_ok K [(1, 2), (5, 225)] (by kernel_rfl)) (Orc.cons (by kernel_rfl) (digest_narrow_l3_se_ok K [(1, 2), (5, 225)] (by kernel_rfl)) (Orc.cons (by kernel_rfl) (digest_narrow_l4_se_ok K [(1, 2), (5, 225)] (by kernel_rfl)) (Orc.cons (by kernel_rfl) (digest_narrow_l5_se_ok K [(1, 2), (5, 225)] (by kernel_rfl)) (Orc.nil _ _ _)))))) (by kernel_rfl) (fun _ _ => by kernel_rfl) (fun _ _ _ => by kernel_rfl) n
noncomputable def digest_narrow_l0_se (K : Nat) : SE := stmtN [(0, .ptr), (1, .sl), (4, .addr)] [] [(1, 2), (5, 225)] (fun x w => digest_narrow_l0 K K x.1 x.2.1 x.2.2.1 w)
theorem digest_narrow_l0_se_ok (K : Nat) (R : Rg) (h : subRB [(1, 2), (5, 225)] R = true) : (digest_narrow_l0_se K).Ok prog R (.block 0 (.loop (cd (bodyOf f46) [1, 0, 0]))) := stmtN_ok (Li := [(0, .ptr), (1, .sl), (4, .addr)]) (Lo := []) (S := (fun x w => digest_narrow_l0 K K x.1 x.2.1 x.2.2.1 w)) (digest_narrow_l0_ok K K) (subR_of h)
theorem digest_narrow_facts : FunFacts prog 46 f46 (bodyOf f46) [(0, .ptr), (1, .sl)] [(0, 225)] := ⟨func46, by kernel_rfl, by kernel_rfl, by kernel_rfl, by kernel_rfl, by kernel_rfl⟩
theorem digest_narrow_calls (K : Nat) (x : TT [(0, .ptr), (1, .sl)]) (w : World) (y : TR []) (w2 : World) (h : digest_narrow K x.1 x.2.1 w = some (y, w2)) : Calls prog 46 (encA [(0, .ptr), (1, .sl)] x).toArray w (fun e w3 => e = .returned (resV (encR [] y)) ∧ w3 = w2) :=
    mk_fun (O := tabL [([1], digest_narrow_l0_se K), ([1, 0, 0, 1, 0, 0, 0, 1], digest_narrow_l1_se K), ([1, 0, 0, 1, 0, 0, 1, 0, 1], digest_narrow_l2_se K), ([1, 0, 0, 1, 0, 0, 1, 1, 1, 0, 1], digest_narrow_l3_se K), ([1, 0, 0, 1, 0, 0, 1, 1, 1, 1, 1, 0, 1], digest_narrow_l4_se K), ([1, 0, 0, 1, 0, 0, 1, 1, 1, 1, 1, 1, 1], digest_narrow_l5_se K)]) (Lp := [(0, .ptr), (1, .sl)]) (Rt := []) (S := (fun x w => digest_narrow K x.1 x.2.1 w)) (digest_narrow_Eok K) (digest_narrow_Rok K) rfl digest_narrow_facts (Orc.cons (by kernel_rfl) (digest_narrow_l0_se_ok K [(0, 225)] (by kernel_rfl)) (Orc.cons (by kernel_rfl) (digest_narrow_l1_se_ok K [(0, 225)] (by kernel_rfl)) (Orc.cons (by kernel_rfl) (digest_narrow_l2_se_ok K [(0, 225)] (by kernel_rfl)) (Orc.cons (by kernel_rfl) (digest_narrow_l3_se_ok K [(0, 225)] (by kernel_rfl)) (Orc.cons (by kernel_rfl) (digest_narrow_l4_se_ok K [(0, 225)] (by kernel_rfl)) (Orc.cons (by kernel_rfl) (digest_narrow_l5_se_ok K [(0, 225)] (by kernel_rfl)) (Orc.nil _ _ _))))))) (fun _ _ => by kernel_rfl) x w y w2 h
noncomputable def digest_narrow_ce (K : Nat) : CE := funE [(0, .ptr), (1, .sl)] [] (fun x w => digest_narrow K x.1 x.2.1 w)
theorem digest_narrow_ok (K : Nat) : (digest_narrow_ce K).Ok prog 46 := funE_ok (Rt := []) (S := (fun x w => digest_narrow K x.1 x.2.1 w)) digest_narrow_facts fun x w y w2 h => digest_narrow_calls K x w y w2 h

noncomputable def digest_state_take_E (K : Nat) : List (Nat × CE) := [(46, digest_narrow_ce K), (47, digest_wide_ce K)]
theorem digest_state_take_Eok (K : Nat) : Env.Ok prog (tab (digest_state_take_E K)) := (Env.cons (digest_narrow_ok K) (Env.cons (digest_wide_ok K) (Env.nil _)))
noncomputable def digest_state_take_R (K : Nat) : List (Nat × RE) := []
theorem digest_state_take_Rok (K : Nat) : REnv.Ok prog (tab (digest_state_take_R K)) := (REnv.nil _)
noncomputable def digest_state_take_s0 (K : Nat) (s0 : Option Addr) (b1 : Sl) (at4 : Int) (a30 : Bool) (w : World) : Option ((Out (Sl × Unit) (Unit)) × World) :=
  if a30 = true then ((s0).bind fun p_9 =>
  (s0).bind fun p_10 =>
  (ldI .i64 ((p_10.add 0).add 1) w.drew).bind fun v_11 =>
  if (0 : Int) ≤ v_11 ∧ v_11 ≤ ((128 : Nat) : Int) then (if (0 : Int) ≤ at4 ∧ at4 ≤ (((Int.toNat (v_11)) : Nat) : Int) then (bnd (cpy prog 22 22 (.slice (sla (some (p_9.add 14)) (Int.toNat (at4)) 128 1) ((Int.toNat (v_11)) - (Int.toNat (at4))) (128 - (Int.toNat (at4)))) (.slice b1.a b1.len b1.cap) w.drew) fun s_12 w_13 =>
  if (0 : Int) ≤ s_12 ∧ s_12 ≤ ((b1.len : Nat) : Int) then ((s0).bind fun p_14 =>
  (ldI .i64 ((p_14.add 0).add 1) w_13).bind fun v_15 =>
  if (decide ((IntKind.i64.wrap (at4 + s_12)) < v_15)) = true then (some (.ret (), w_13)) else ((s0).bind fun p_16 =>
  (s0).bind fun p_17 =>
  (s0).bind fun p_18 =>
  (s0).bind fun p_19 =>
  (ldV ((p_16.add 0).add 3) w_13.drew).bind fun v_20 =>
  (ldI .i64 ((p_19.add 0).add 1) w_13.drew).bind fun v_21 =>
  if (0 : Int) ≤ v_21 ∧ v_21 ≤ ((128 : Nat) : Int) then (dyn (tab (digest_state_take_E K)) v_20 [(.pointer (some (p_17.add 6))), (.slice (sla (some (p_18.add 14)) 0 128 1) ((Int.toNat (v_21)) - 0) (128 - 0))] w_13.drew fun v_22 w_23 =>
  some (.norm (⟨(sla b1.a (Int.toNat (s_12)) b1.cap 1), (b1.len - (Int.toNat (s_12))), (b1.cap - (Int.toNat (s_12)))⟩, ()), w_23)) else none)) else none) else none) else none) else (some (.norm (b1, ()), w))
/-- (*coffer/digest.state).take -/
noncomputable def digest_state_take (K : Nat) (s0 : Option Addr) (b1 : Sl) (w : World) : Option ((Unit) × World) :=
  (s0).bind fun p_1 =>
  (s0).bind fun p_2 =>
  (ldI .u64 (p_1.add 5) w.drew).bind fun v_3 =>
  (ldI .i64 ((p_2.add 0).add 1) w.drew).bind fun v_4 =>
  if (IntKind.u64.wrap v_4) ≠ 0 then ((s0).bind fun p_5 =>
  (ldI .u64 (p_5.add 5) w.drew).bind fun v_6 =>
  (s0).bind fun p_7 =>
  (stC (p_7.add 5) (.int .u64 (IntKind.u64.wrap (v_6 + (IntKind.u64.wrap ((b1.len : Nat) : Int))))) w.drew).bind fun w_8 =>
  bnd (digest_state_take_s0 K s0 b1 (IntKind.i64.wrap (Int.tmod v_3 (IntKind.u64.wrap v_4))) (decide ((IntKind.i64.wrap (Int.tmod v_3 (IntKind.u64.wrap v_4))) > 0)) w_8) fun y_24 w_25 =>
  (match y_24 with
  | .norm z_26n => ((s0).bind fun p_27 =>
  (s0).bind fun p_28 =>
  (ldI .i64 ((p_27.add 0).add 1) w_25.drew).bind fun v_29 =>
  if v_29 ≠ 0 then ((ldI .i64 ((p_28.add 0).add 1) w_25.drew).bind fun v_30 =>
  (s0).bind fun p_31 =>
  (s0).bind fun p_32 =>
  if (0 : Int) ≤ (IntKind.i64.wrap ((IntKind.i64.wrap (Int.tdiv ((z_26n.1.len : Nat) : Int) v_29)) * v_30)) ∧ (IntKind.i64.wrap ((IntKind.i64.wrap (Int.tdiv ((z_26n.1.len : Nat) : Int) v_29)) * v_30)) ≤ ((z_26n.1.cap : Nat) : Int) then ((ldV ((p_31.add 0).add 3) w_25.drew.drew).bind fun v_33 =>
  dyn (tab (digest_state_take_E K)) v_33 [(.pointer (some (p_32.add 6))), (.slice (sla z_26n.1.a 0 z_26n.1.cap 1) ((Int.toNat ((IntKind.i64.wrap ((IntKind.i64.wrap (Int.tdiv ((z_26n.1.len : Nat) : Int) v_29)) * v_30)))) - 0) (z_26n.1.cap - 0))] w_25.drew.drew fun v_34 w_35 =>
  (s0).bind fun p_36 =>
  if (0 : Int) ≤ (IntKind.i64.wrap ((IntKind.i64.wrap (Int.tdiv ((z_26n.1.len : Nat) : Int) v_29)) * v_30)) ∧ (IntKind.i64.wrap ((IntKind.i64.wrap (Int.tdiv ((z_26n.1.len : Nat) : Int) v_29)) * v_30)) ≤ ((z_26n.1.len : Nat) : Int) then (bnd (cpy prog 22 22 (.slice (sla (some (p_36.add 14)) 0 128 1) (128 - 0) (128 - 0)) (.slice (sla z_26n.1.a (Int.toNat ((IntKind.i64.wrap ((IntKind.i64.wrap (Int.tdiv ((z_26n.1.len : Nat) : Int) v_29)) * v_30)))) z_26n.1.cap 1) (z_26n.1.len - (Int.toNat ((IntKind.i64.wrap ((IntKind.i64.wrap (Int.tdiv ((z_26n.1.len : Nat) : Int) v_29)) * v_30))))) (z_26n.1.cap - (Int.toNat ((IntKind.i64.wrap ((IntKind.i64.wrap (Int.tdiv ((z_26n.1.len : Nat) : Int) v_29)) * v_30)))))) w_35.drew) fun s_37 w_38 =>
  some ((), w_38)) else none) else none) else none)
  | .ret z_26r => (some ((), w_25)))) else none
theorem digest_state_take_s0_ok (K : Nat) : StmtOk prog [(0, .ptr), (1, .sl), (4, .int .i64), (30, .bool)] [(1, .sl)] [] [(1, 2), (5, 6), (31, 73)] (fun x w => digest_state_take_s0 K x.1 x.2.1 x.2.2.1 x.2.2.2.1 w) (cd (bodyOf f59) [1, 1, 0, 1]) :=
    mk_stmt (O := tabL []) (root := (bodyOf f59)) (π := [1, 1, 0, 1]) (Li := [(0, .ptr), (1, .sl), (4, .int .i64), (30, .bool)]) (Lo := [(1, .sl)]) (Lr := []) (S := (fun x w => digest_state_take_s0 K x.1 x.2.1 x.2.2.1 x.2.2.2.1 w)) (digest_state_take_Eok K) (digest_state_take_Rok K) rfl (Orc.nil _ _ _) (by kernel_rfl) (fun _ _ => by kernel_rfl)
noncomputable def digest_state_take_s0_se (K : Nat) : SE := stmt [(0, .ptr), (1, .sl), (4, .int .i64), (30, .bool)] [(1, .sl)] [] [(1, 2), (5, 6), (31, 73)] (fun x w => digest_state_take_s0 K x.1 x.2.1 x.2.2.1 x.2.2.2.1 w)
theorem digest_state_take_s0_se_ok (K : Nat) (R : Rg) (h : subRB [(1, 2), (5, 6), (31, 73)] R = true) : (digest_state_take_s0_se K).Ok prog R (cd (bodyOf f59) [1, 1, 0, 1]) := stmt_ok (Li := [(0, .ptr), (1, .sl), (4, .int .i64), (30, .bool)]) (Lo := [(1, .sl)]) (Lr := []) (S := (fun x w => digest_state_take_s0 K x.1 x.2.1 x.2.2.1 x.2.2.2.1 w)) (digest_state_take_s0_ok K) (subR_of h)
theorem digest_state_take_facts : FunFacts prog 59 f59 (bodyOf f59) [(0, .ptr), (1, .sl)] [(0, 107)] := ⟨func59, by kernel_rfl, by kernel_rfl, by kernel_rfl, by kernel_rfl, by kernel_rfl⟩
theorem digest_state_take_calls (K : Nat) (x : TT [(0, .ptr), (1, .sl)]) (w : World) (y : TR []) (w2 : World) (h : digest_state_take K x.1 x.2.1 w = some (y, w2)) : Calls prog 59 (encA [(0, .ptr), (1, .sl)] x).toArray w (fun e w3 => e = .returned (resV (encR [] y)) ∧ w3 = w2) :=
    mk_fun (O := tabL [([1, 1, 0, 1], digest_state_take_s0_se K)]) (Lp := [(0, .ptr), (1, .sl)]) (Rt := []) (S := (fun x w => digest_state_take K x.1 x.2.1 w)) (digest_state_take_Eok K) (digest_state_take_Rok K) rfl digest_state_take_facts (Orc.cons (by kernel_rfl) (digest_state_take_s0_se_ok K [(0, 107)] (by kernel_rfl)) (Orc.nil _ _ _)) (fun _ _ => by kernel_rfl) x w y w2 h
noncomputable def digest_state_take_ce (K : Nat) : CE := funE [(0, .ptr), (1, .sl)] [] (fun x w => digest_state_take K x.1 x.2.1 w)
theorem digest_state_take_ok (K : Nat) : (digest_state_take_ce K).Ok prog 59 := funE_ok (Rt := []) (S := (fun x w => digest_state_take K x.1 x.2.1 w)) digest_state_take_facts fun x w y w2 h => digest_state_take_calls K x w y w2 h

noncomputable def digest_big_E (K : Nat) : List (Nat × CE) := []
theorem digest_big_Eok (K : Nat) : Env.Ok prog (tab (digest_big_E K)) := (Env.nil _)
noncomputable def digest_big_R (K : Nat) : List (Nat × RE) := []
theorem digest_big_Rok (K : Nat) : REnv.Ok prog (tab (digest_big_R K)) := (REnv.nil _)
noncomputable def digest_big_l0_b (K : Nat) (rec : Sl → Int → Int → World → Option ((Sl × Unit) × World)) (out0 : Sl) (x1 : Int) (i7 : Int) (w : World) : Option ((Sl × Unit) × World) :=
  if (decide (i7 ≥ 0)) = true then (if (0 : Int) ≤ (IntKind.i64.wrap (8 * i7)) then (bnd (bldS prog 22 1 #[(0, (.int .u8 (IntKind.u8.wrap (Int.fdiv x1 (2 ^ (min (Int.toNat (IntKind.i64.wrap (8 * i7))) IntKind.u64.bits))))))] w) fun s_1 w_2 =>
  bnd (apd prog 22 22 (.slice out0.a out0.len out0.cap) (.slice s_1.a s_1.len s_1.cap) w_2) fun s_3 w_4 =>
  rec s_3 x1 (IntKind.i64.wrap (i7 - 1)) w_4) else none) else (some ((out0, ()), w))
noncomputable def digest_big_l0 (K : Nat) (n : Nat) : Sl → Int → Int → World → Option ((Sl × Unit) × World) := iter (fun _ _ _ _ => none) (digest_big_l0_b K) n
/-- coffer/digest.big -/
noncomputable def digest_big (K : Nat) (out0 : Sl) (x1 : Int) (n2 : Int) (w : World) : Option ((Sl × Unit) × World) :=
  bnd (digest_big_l0 K K out0 x1 (IntKind.i64.wrap (n2 - 1)) w) fun y_5 w_6 =>
  some ((y_5.1, ()), w_6)
theorem digest_big_l0_ok (K : Nat) (n : Nat) : StmtNOk prog [(0, .sl), (1, .int .u64), (7, .int .i64)] [(0, .sl)] [(0, 1), (7, 8), (10, 22)] ((fun n x w => digest_big_l0 K n x.1 x.2.1 x.2.2.1 w) n) (.block 0 (.loop (cd (bodyOf f69) [1, 0, 1, 0, 0]))) :=
    mk_loopN (O := tabL []) (root := (bodyOf f69)) (π := [1, 0, 1, 0, 0]) (id := 0) (Li := [(0, .sl), (1, .int .u64), (7, .int .i64)]) (Lo := [(0, .sl)]) (S := (fun n x w => digest_big_l0 K n x.1 x.2.1 x.2.2.1 w)) (body := cd (bodyOf f69) [1, 0, 1, 0, 0]) (digest_big_Eok K) (digest_big_Rok K) rfl (Orc.nil _ _ _) (by kernel_rfl) (fun _ _ => by kernel_rfl) (fun _ _ _ => by kernel_rfl) n
noncomputable def digest_big_l0_se (K : Nat) : SE := stmtN [(0, .sl), (1, .int .u64), (7, .int .i64)] [(0, .sl)] [(0, 1), (7, 8), (10, 22)] (fun x w => digest_big_l0 K K x.1 x.2.1 x.2.2.1 w)
theorem digest_big_l0_se_ok (K : Nat) (R : Rg) (h : subRB [(0, 1), (7, 8), (10, 22)] R = true) : (digest_big_l0_se K).Ok prog R (.block 0 (.loop (cd (bodyOf f69) [1, 0, 1, 0, 0]))) := stmtN_ok (Li := [(0, .sl), (1, .int .u64), (7, .int .i64)]) (Lo := [(0, .sl)]) (S := (fun x w => digest_big_l0 K K x.1 x.2.1 x.2.2.1 w)) (digest_big_l0_ok K K) (subR_of h)
theorem digest_big_facts : FunFacts prog 69 f69 (bodyOf f69) [(0, .sl), (1, .int .u64), (2, .int .i64)] [(0, 23)] := ⟨func69, by kernel_rfl, by kernel_rfl, by kernel_rfl, by kernel_rfl, by kernel_rfl⟩
theorem digest_big_calls (K : Nat) (x : TT [(0, .sl), (1, .int .u64), (2, .int .i64)]) (w : World) (y : TR [.sl]) (w2 : World) (h : digest_big K x.1 x.2.1 x.2.2.1 w = some (y, w2)) : Calls prog 69 (encA [(0, .sl), (1, .int .u64), (2, .int .i64)] x).toArray w (fun e w3 => e = .returned (resV (encR [.sl] y)) ∧ w3 = w2) :=
    mk_fun (O := tabL [([1, 0, 1], digest_big_l0_se K)]) (Lp := [(0, .sl), (1, .int .u64), (2, .int .i64)]) (Rt := [.sl]) (S := (fun x w => digest_big K x.1 x.2.1 x.2.2.1 w)) (digest_big_Eok K) (digest_big_Rok K) rfl digest_big_facts (Orc.cons (by kernel_rfl) (digest_big_l0_se_ok K [(0, 23)] (by kernel_rfl)) (Orc.nil _ _ _)) (fun _ _ => by kernel_rfl) x w y w2 h
noncomputable def digest_big_ce (K : Nat) : CE := funE [(0, .sl), (1, .int .u64), (2, .int .i64)] [.sl] (fun x w => digest_big K x.1 x.2.1 x.2.2.1 w)
theorem digest_big_ok (K : Nat) : (digest_big_ce K).Ok prog 69 := funE_ok (Rt := [.sl]) (S := (fun x w => digest_big K x.1 x.2.1 x.2.2.1 w)) digest_big_facts fun x w y w2 h => digest_big_calls K x w y w2 h

end Go.Sh
