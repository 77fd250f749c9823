/- Texts of this claim, put together: Sh6 -/
import Derived.Test.YtchiihkiiofhcaaDoorAllShmfiong
/- What functions of the program do, as Lean functions; that the machine does just that. Printed by shal.py, a program of this claim's writer. -/
set_option maxRecDepth 100000
set_option linter.unusedVariables false
namespace Go.Sh
open Go.Fw Go.Proofs.Tryd

noncomputable def law06_good_E : List (Nat × CE) := []
theorem law06_good_Eok : Env.Ok prog (tab (law06_good_E)) := (Env.nil _)
noncomputable def law06_good_R : List (Nat × RE) := []
theorem law06_good_Rok : REnv.Ok prog (tab (law06_good_R)) := (REnv.nil _)
/-- coffer/cofferlaw06.good -/
noncomputable def law06_good (c0 : Array Value) (w : World) : Option ((Bool × Unit) × World) :=
  bnd (newB c0 24 w) fun p_1 w_2 =>
  (ldI .i64 (p_1.add 0) w_2).bind fun v_3 =>
  if (v_3 == 224) = true then ((ldI .i64 (p_1.add 1) w_2).bind fun v_4 =>
  if (decide (v_4 ≥ 1)) = true then ((ldI .i64 (p_1.add 1) w_2).bind fun v_5 =>
  if (decide (v_5 ≤ 16777216)) = true then ((ldS (p_1.add 2) w_2).bind fun v_6 =>
  if (decide (((v_6.len : Nat) : Int) ≥ 16)) = true then ((ldS (p_1.add 2) w_2).bind fun v_7 =>
  if (decide (((v_7.len : Nat) : Int) ≤ 65536)) = true then ((ldS (p_1.add 3) w_2).bind fun v_8 =>
  if (decide (((v_8.len : Nat) : Int) ≤ 65536)) = true then ((ldS (p_1.add 4) w_2).bind fun v_9 =>
  some (((decide (((v_9.len : Nat) : Int) ≤ 65536)), ()), w_2)) else (some ((false, ()), w_2))) else (some ((false, ()), w_2))) else (some ((false, ()), w_2))) else (some ((false, ()), w_2))) else (some ((false, ()), w_2))) else ((ldI .i64 (p_1.add 0) w_2).bind fun v_10 =>
  if (v_10 == 256) = true then ((ldI .i64 (p_1.add 1) w_2).bind fun v_11 =>
  if (decide (v_11 ≥ 1)) = true then ((ldI .i64 (p_1.add 1) w_2).bind fun v_12 =>
  if (decide (v_12 ≤ 16777216)) = true then ((ldS (p_1.add 2) w_2).bind fun v_13 =>
  if (decide (((v_13.len : Nat) : Int) ≥ 16)) = true then ((ldS (p_1.add 2) w_2).bind fun v_14 =>
  if (decide (((v_14.len : Nat) : Int) ≤ 65536)) = true then ((ldS (p_1.add 3) w_2).bind fun v_15 =>
  if (decide (((v_15.len : Nat) : Int) ≤ 65536)) = true then ((ldS (p_1.add 4) w_2).bind fun v_16 =>
  some (((decide (((v_16.len : Nat) : Int) ≤ 65536)), ()), w_2)) else (some ((false, ()), w_2))) else (some ((false, ()), w_2))) else (some ((false, ()), w_2))) else (some ((false, ()), w_2))) else (some ((false, ()), w_2))) else ((ldI .i64 (p_1.add 0) w_2).bind fun v_17 =>
  if (v_17 == 384) = true then ((ldI .i64 (p_1.add 1) w_2).bind fun v_18 =>
  if (decide (v_18 ≥ 1)) = true then ((ldI .i64 (p_1.add 1) w_2).bind fun v_19 =>
  if (decide (v_19 ≤ 16777216)) = true then ((ldS (p_1.add 2) w_2).bind fun v_20 =>
  if (decide (((v_20.len : Nat) : Int) ≥ 16)) = true then ((ldS (p_1.add 2) w_2).bind fun v_21 =>
  if (decide (((v_21.len : Nat) : Int) ≤ 65536)) = true then ((ldS (p_1.add 3) w_2).bind fun v_22 =>
  if (decide (((v_22.len : Nat) : Int) ≤ 65536)) = true then ((ldS (p_1.add 4) w_2).bind fun v_23 =>
  some (((decide (((v_23.len : Nat) : Int) ≤ 65536)), ()), w_2)) else (some ((false, ()), w_2))) else (some ((false, ()), w_2))) else (some ((false, ()), w_2))) else (some ((false, ()), w_2))) else (some ((false, ()), w_2))) else ((ldI .i64 (p_1.add 0) w_2).bind fun v_24 =>
  if (v_24 == 512) = true then ((ldI .i64 (p_1.add 1) w_2).bind fun v_25 =>
  if (decide (v_25 ≥ 1)) = true then ((ldI .i64 (p_1.add 1) w_2).bind fun v_26 =>
  if (decide (v_26 ≤ 16777216)) = true then ((ldS (p_1.add 2) w_2).bind fun v_27 =>
  if (decide (((v_27.len : Nat) : Int) ≥ 16)) = true then ((ldS (p_1.add 2) w_2).bind fun v_28 =>
  if (decide (((v_28.len : Nat) : Int) ≤ 65536)) = true then ((ldS (p_1.add 3) w_2).bind fun v_29 =>
  if (decide (((v_29.len : Nat) : Int) ≤ 65536)) = true then ((ldS (p_1.add 4) w_2).bind fun v_30 =>
  some (((decide (((v_30.len : Nat) : Int) ≤ 65536)), ()), w_2)) else (some ((false, ()), w_2))) else (some ((false, ()), w_2))) else (some ((false, ()), w_2))) else (some ((false, ()), w_2))) else (some ((false, ()), w_2))) else (some ((false, ()), w_2)))))
theorem law06_good_facts : FunFacts prog 13 f13 (bodyOf f13) [(0, .agg)] [(0, 55)] := ⟨func13, by kernel_rfl, by kernel_rfl, by kernel_rfl, by kernel_rfl, by kernel_rfl⟩
theorem law06_good_calls (x : TT [(0, .agg)]) (w : World) (y : TR [.bool]) (w2 : World) (h : law06_good x.1 w = some (y, w2)) : Calls prog 13 (encA [(0, .agg)] x).toArray w (fun e w3 => e = .returned (resV (encR [.bool] y)) ∧ w3 = w2) :=
    mk_fun (O := tabL []) (Lp := [(0, .agg)]) (Rt := [.bool]) (S := (fun x w => law06_good x.1 w)) (law06_good_Eok) (law06_good_Rok) rfl law06_good_facts (Orc.nil _ _ _) (fun _ _ => by kernel_rfl) x w y w2 h
noncomputable def law06_good_ce : CE := funE [(0, .agg)] [.bool] (fun x w => law06_good x.1 w)
theorem law06_good_ok : (law06_good_ce).Ok prog 13 := funE_ok (Rt := [.bool]) (S := (fun x w => law06_good x.1 w)) law06_good_facts fun x w y w2 h => law06_good_calls x w y w2 h

noncomputable def spring_Spring_Copy_E : List (Nat × CE) := []
theorem spring_Spring_Copy_Eok : Env.Ok prog (tab (spring_Spring_Copy_E)) := (Env.nil _)
noncomputable def spring_Spring_Copy_R : List (Nat × RE) := []
theorem spring_Spring_Copy_Rok : REnv.Ok prog (tab (spring_Spring_Copy_R)) := (REnv.nil _)
/-- (*coffer/spring.Spring).Copy -/
noncomputable def spring_Spring_Copy (s0 : Option Addr) (w : World) : Option (((Option Addr) × Unit) × World) :=
  if s0.isNone = true then (some ((none, ()), w)) else ((s0).bind fun p_1 =>
  (ldA 5 p_1 w).bind fun v_2 =>
  bnd (newB z52 52 w) fun c_3 w_4 =>
  if (v_2).size = 5 then ((stA c_3 v_2 w_4).bind fun w_5 =>
  some (((some c_3), ()), w_5)) else none)
theorem spring_Spring_Copy_facts : FunFacts prog 15 f15 (bodyOf f15) [(0, .ptr)] [(0, 9)] := ⟨func15, by kernel_rfl, by kernel_rfl, by kernel_rfl, by kernel_rfl, by kernel_rfl⟩
theorem spring_Spring_Copy_calls (x : TT [(0, .ptr)]) (w : World) (y : TR [.ptr]) (w2 : World) (h : spring_Spring_Copy x.1 w = some (y, w2)) : Calls prog 15 (encA [(0, .ptr)] x).toArray w (fun e w3 => e = .returned (resV (encR [.ptr] y)) ∧ w3 = w2) :=
    mk_fun (O := tabL []) (Lp := [(0, .ptr)]) (Rt := [.ptr]) (S := (fun x w => spring_Spring_Copy x.1 w)) (spring_Spring_Copy_Eok) (spring_Spring_Copy_Rok) rfl spring_Spring_Copy_facts (Orc.nil _ _ _) (fun _ _ => by kernel_rfl) x w y w2 h
noncomputable def spring_Spring_Copy_ce : CE := funE [(0, .ptr)] [.ptr] (fun x w => spring_Spring_Copy x.1 w)
theorem spring_Spring_Copy_ok : (spring_Spring_Copy_ce).Ok prog 15 := funE_ok (Rt := [.ptr]) (S := (fun x w => spring_Spring_Copy x.1 w)) spring_Spring_Copy_facts fun x w y w2 h => spring_Spring_Copy_calls x w y w2 h

noncomputable def law06_SpringPrefixes_E (K : Nat) : List (Nat × CE) := [(13, law06_good_ce), (14, spring_New_ce K), (15, spring_Spring_Copy_ce), (8, spring_Spring_Draw_ce K), (11, book_SameBytes_ce K)]
theorem law06_SpringPrefixes_Eok (K : Nat) : Env.Ok prog (tab (law06_SpringPrefixes_E K)) := (Env.cons (law06_good_ok) (Env.cons (spring_New_ok K) (Env.cons (spring_Spring_Copy_ok) (Env.cons (spring_Spring_Draw_ok K) (Env.cons (book_SameBytes_ok K) (Env.nil _))))))
noncomputable def law06_SpringPrefixes_R (K : Nat) : List (Nat × RE) := [(10, law06_num_re)]
theorem law06_SpringPrefixes_Rok (K : Nat) : REnv.Ok prog (tab (law06_SpringPrefixes_R K)) := (REnv.cons (law06_num_ok) (REnv.nil _))
noncomputable def law06_SpringPrefixes_s0 (K : Nat) (n1 : Int) (more2 : Int) (c3 : Addr) (w : World) : Option ((Bool × Unit) × World) :=
  (ldA 5 c3 w).bind fun v_3 =>
  bnd (law06_good v_3 w) fun r_4 w_5 =>
  if (!r_4.1) = true then (some ((true, ()), w_5)) else (if (decide (n1 < 0)) = true then (some ((true, ()), w_5)) else (if (decide (n1 > 500)) = true then (some ((true, ()), w_5)) else (if (decide (more2 < 0)) = true then (some ((true, ()), w_5)) else (if (decide (more2 > 500)) = true then (some ((true, ()), w_5)) else ((ldI .i64 (c3.add 1) w_5).bind fun v_6 =>
  some (((decide (v_6 < 2)), ()), w_5))))))
noncomputable def law06_SpringPrefixes_s1 (K : Nat) (s7 : Option Addr) (e8 : Int) (w : World) : Option ((Bool × Unit) × World) :=
  (law06_num e8).bind fun r_16 =>
  if (r_16.1 != 0) = true then (some ((true, ()), w)) else (some ((s7.isNone, ()), w))
/-- coffer/cofferlaw06.SpringPrefixes -/
noncomputable def law06_SpringPrefixes {β : Type} (K : Nat) (c0 : Array Value) (n1 : Int) (more2 : Int) (w : World) (k : (Bool × Unit) → World → Option β) : Option β :=
  bnd (newB c0 24 w) fun p_1 w_2 =>
  bnd (law06_SpringPrefixes_s0 K n1 more2 p_1 w_2) fun y_7 w_8 =>
  if y_7.1 = true then (k (true, ()) w_8) else ((ldI .i64 (p_1.add 0) w_8).bind fun v_9 =>
  (ldI .i64 (p_1.add 1) w_8).bind fun v_10 =>
  (ldS (p_1.add 2) w_8).bind fun v_11 =>
  (ldS (p_1.add 3) w_8).bind fun v_12 =>
  (ldS (p_1.add 4) w_8).bind fun v_13 =>
  spring_New K v_9 v_10 v_11 v_12 v_13 w_8 fun r_14 w_15 =>
  bnd (law06_SpringPrefixes_s1 K r_14.1 r_14.2.1 w_15) fun y_17 w_18 =>
  if y_17.1 = true then (k (false, ()) w_18) else (bnd (spring_Spring_Copy r_14.1 w_18) fun r_19 w_20 =>
  (ldS (p_1.add 4) w_20).bind fun v_21 =>
  bnd (bldS prog 49 1 #[(0, (.slice v_21.a v_21.len v_21.cap))] w_20) fun s_22 w_23 =>
  bnd (spring_Spring_Draw K r_14.1 n1 s_22 w_23) fun r_24 w_25 =>
  (ldS (p_1.add 4) w_25).bind fun v_26 =>
  bnd (bldS prog 49 1 #[(0, (.slice v_26.a v_26.len v_26.cap))] w_25) fun s_27 w_28 =>
  bnd (spring_Spring_Draw K r_19.1 (IntKind.i64.wrap (n1 + more2)) s_27 w_28) fun r_29 w_30 =>
  (law06_num r_24.2.1).bind fun r_31 =>
  if (r_31.1 == 0) = true then ((law06_num r_29.2.1).bind fun r_32 =>
  if (r_32.1 == 0) = true then (if (((r_24.1.len : Nat) : Int) == n1) = true then (if (((r_29.1.len : Nat) : Int) == (IntKind.i64.wrap (n1 + more2))) = true then (if (0 : Int) ≤ n1 ∧ n1 ≤ ((r_29.1.cap : Nat) : Int) then (bnd (book_SameBytes K r_24.1 ⟨(sla r_29.1.a 0 r_29.1.cap 1), ((Int.toNat (n1)) - 0), (r_29.1.cap - 0)⟩ w_30) fun r_33 w_34 =>
  k (r_33.1, ()) w_34) else none) else (k (false, ()) w_30)) else (k (false, ()) w_30)) else (k (false, ()) w_30)) else (k (false, ()) w_30)))
theorem law06_SpringPrefixes_s0_ok (K : Nat) : StmtNOk prog [(1, .int .i64), (2, .int .i64), (3, .addr)] [(36, .bool)] [(13, 37)] (fun x w => law06_SpringPrefixes_s0 K x.1 x.2.1 x.2.2.1 w) (cd (bodyOf f4) [1, 0, 0]) :=
    mk_stmtN (O := tabL []) (root := (bodyOf f4)) (π := [1, 0, 0]) (Li := [(1, .int .i64), (2, .int .i64), (3, .addr)]) (Lo := [(36, .bool)]) (S := (fun x w => law06_SpringPrefixes_s0 K x.1 x.2.1 x.2.2.1 w)) (law06_SpringPrefixes_Eok K) (law06_SpringPrefixes_Rok K) rfl (Orc.nil _ _ _) (by kernel_rfl) (fun _ _ => by kernel_rfl)
noncomputable def law06_SpringPrefixes_s0_se (K : Nat) : SE := stmtN [(1, .int .i64), (2, .int .i64), (3, .addr)] [(36, .bool)] [(13, 37)] (fun x w => law06_SpringPrefixes_s0 K x.1 x.2.1 x.2.2.1 w)
theorem law06_SpringPrefixes_s0_se_ok (K : Nat) (R : Rg) (h : subRB [(13, 37)] R = true) : (law06_SpringPrefixes_s0_se K).Ok prog R (cd (bodyOf f4) [1, 0, 0]) := stmtN_ok (Li := [(1, .int .i64), (2, .int .i64), (3, .addr)]) (Lo := [(36, .bool)]) (S := (fun x w => law06_SpringPrefixes_s0 K x.1 x.2.1 x.2.2.1 w)) (law06_SpringPrefixes_s0_ok K) (subR_of h)
theorem law06_SpringPrefixes_s1_ok (K : Nat) : StmtNOk prog [(7, .ptr), (8, .int .i64)] [(57, .bool)] [(51, 58)] (fun x w => law06_SpringPrefixes_s1 K x.1 x.2.1 w) (cd (bodyOf f4) [1, 1, 1, 0, 0]) :=
    mk_stmtN (O := tabL []) (root := (bodyOf f4)) (π := [1, 1, 1, 0, 0]) (Li := [(7, .ptr), (8, .int .i64)]) (Lo := [(57, .bool)]) (S := (fun x w => law06_SpringPrefixes_s1 K x.1 x.2.1 w)) (law06_SpringPrefixes_Eok K) (law06_SpringPrefixes_Rok K) rfl (Orc.nil _ _ _) (by kernel_rfl) (fun _ _ => by kernel_rfl)
noncomputable def law06_SpringPrefixes_s1_se (K : Nat) : SE := stmtN [(7, .ptr), (8, .int .i64)] [(57, .bool)] [(51, 58)] (fun x w => law06_SpringPrefixes_s1 K x.1 x.2.1 w)
theorem law06_SpringPrefixes_s1_se_ok (K : Nat) (R : Rg) (h : subRB [(51, 58)] R = true) : (law06_SpringPrefixes_s1_se K).Ok prog R (cd (bodyOf f4) [1, 1, 1, 0, 0]) := stmtN_ok (Li := [(7, .ptr), (8, .int .i64)]) (Lo := [(57, .bool)]) (S := (fun x w => law06_SpringPrefixes_s1 K x.1 x.2.1 w)) (law06_SpringPrefixes_s1_ok K) (subR_of h)
theorem law06_SpringPrefixes_facts : FunFacts prog 4 f4 (bodyOf f4) [(0, .agg), (1, .int .i64), (2, .int .i64)] [(0, 109)] := ⟨func4, by kernel_rfl, by kernel_rfl, by kernel_rfl, by kernel_rfl, by kernel_rfl⟩
theorem law06_SpringPrefixes_calls (K : Nat) {β : Type} (x : TT [(0, .agg), (1, .int .i64), (2, .int .i64)]) (w : World) (k : TR [.bool] → World → Option β) (r : β) (h : law06_SpringPrefixes K x.1 x.2.1 x.2.2.1 w k = some r) : Calls prog 4 (encA [(0, .agg), (1, .int .i64), (2, .int .i64)] x).toArray w (fun e w3 => ∃ y, e = .returned (resV (encR [.bool] y)) ∧ k y w3 = some r) :=
    mk_funC (O := tabL [([1, 0, 0], law06_SpringPrefixes_s0_se K), ([1, 1, 1, 0, 0], law06_SpringPrefixes_s1_se K)]) (Lp := [(0, .agg), (1, .int .i64), (2, .int .i64)]) (Rt := [.bool]) (S := (fun x w k => law06_SpringPrefixes K x.1 x.2.1 x.2.2.1 w k)) (law06_SpringPrefixes_Eok K) (law06_SpringPrefixes_Rok K) rfl law06_SpringPrefixes_facts (Orc.cons (by kernel_rfl) (law06_SpringPrefixes_s0_se_ok K [(0, 109)] (by kernel_rfl)) (Orc.cons (by kernel_rfl) (law06_SpringPrefixes_s1_se_ok K [(0, 109)] (by kernel_rfl)) (Orc.nil _ _ _))) (fun _ _ _ => by kernel_rfl) x w k r h
noncomputable def law06_SpringPrefixes_ce (K : Nat) : CE := funC [(0, .agg), (1, .int .i64), (2, .int .i64)] [.bool] (fun {_} x w k => law06_SpringPrefixes K x.1 x.2.1 x.2.2.1 w k)
theorem law06_SpringPrefixes_ok (K : Nat) : (law06_SpringPrefixes_ce K).Ok prog 4 := funC_ok (Rt := [.bool]) (S := (fun {_} x w k => law06_SpringPrefixes K x.1 x.2.1 x.2.2.1 w k)) law06_SpringPrefixes_facts fun x w k r h => law06_SpringPrefixes_calls K x w k r h

noncomputable def spring_Spring_Feed_E (K : Nat) : List (Nat × CE) := [(24, spring_Spring_update_ce K)]
theorem spring_Spring_Feed_Eok (K : Nat) : Env.Ok prog (tab (spring_Spring_Feed_E K)) := (Env.cons (spring_Spring_update_ok K) (Env.nil _))
noncomputable def spring_Spring_Feed_R (K : Nat) : List (Nat × RE) := [(30, spring_fit_re), (21, spring_long_re K)]
theorem spring_Spring_Feed_Rok (K : Nat) : REnv.Ok prog (tab (spring_Spring_Feed_R K)) := (REnv.cons (spring_fit_ok) (REnv.cons (spring_long_ok K) (REnv.nil _)))
/-- (*coffer/spring.Spring).Feed -/
noncomputable def spring_Spring_Feed (K : Nat) (s0 : Option Addr) (entropy1 : Sl) (extra2 : Sl) (w : World) : Option ((Int × Unit) × World) :=
  if s0.isNone = true then (some ((1, ()), w)) else ((spring_fit entropy1).bind fun r_1 =>
  if (!r_1.1) = true then (some ((60, ()), w)) else ((spring_long K extra2 w).bind fun r_2 =>
  if r_2.1 = true then (some ((4, ()), w)) else (bnd (bldS prog 49 1 #[(0, (.slice entropy1.a entropy1.len entropy1.cap))] w) fun s_3 w_4 =>
  bnd (apd prog 49 49 (.slice s_3.a s_3.len s_3.cap) (.slice extra2.a extra2.len extra2.cap) w_4) fun s_5 w_6 =>
  bnd (spring_Spring_update K s0 s_5 w_6) fun r_7 w_8 =>
  (s0).bind fun p_9 =>
  (stC (p_9.add 2) (.int .i64 0) w_8).bind fun w_10 =>
  some ((0, ()), w_10))))
theorem spring_Spring_Feed_facts : FunFacts prog 16 f16 (bodyOf f16) [(0, .ptr), (1, .sl), (2, .sl)] [(0, 26)] := ⟨func16, by kernel_rfl, by kernel_rfl, by kernel_rfl, by kernel_rfl, by kernel_rfl⟩
theorem spring_Spring_Feed_calls (K : Nat) (x : TT [(0, .ptr), (1, .sl), (2, .sl)]) (w : World) (y : TR [.int .i64]) (w2 : World) (h : spring_Spring_Feed K x.1 x.2.1 x.2.2.1 w = some (y, w2)) : Calls prog 16 (encA [(0, .ptr), (1, .sl), (2, .sl)] x).toArray w (fun e w3 => e = .returned (resV (encR [.int .i64] y)) ∧ w3 = w2) :=
    mk_fun (O := tabL []) (Lp := [(0, .ptr), (1, .sl), (2, .sl)]) (Rt := [.int .i64]) (S := (fun x w => spring_Spring_Feed K x.1 x.2.1 x.2.2.1 w)) (spring_Spring_Feed_Eok K) (spring_Spring_Feed_Rok K) rfl spring_Spring_Feed_facts (Orc.nil _ _ _) (fun _ _ => by kernel_rfl) x w y w2 h
noncomputable def spring_Spring_Feed_ce (K : Nat) : CE := funE [(0, .ptr), (1, .sl), (2, .sl)] [.int .i64] (fun x w => spring_Spring_Feed K x.1 x.2.1 x.2.2.1 w)
theorem spring_Spring_Feed_ok (K : Nat) : (spring_Spring_Feed_ce K).Ok prog 16 := funE_ok (Rt := [.int .i64]) (S := (fun x w => spring_Spring_Feed K x.1 x.2.1 x.2.2.1 w)) spring_Spring_Feed_facts fun x w y w2 h => spring_Spring_Feed_calls K x w y w2 h

noncomputable def law06_SpringThirsts_E (K : Nat) : List (Nat × CE) := [(13, law06_good_ce), (14, spring_New_ce K), (12, spring_Spring_Left_ce), (8, spring_Spring_Draw_ce K), (15, spring_Spring_Copy_ce), (16, spring_Spring_Feed_ce K), (11, book_SameBytes_ce K)]
theorem law06_SpringThirsts_Eok (K : Nat) : Env.Ok prog (tab (law06_SpringThirsts_E K)) := (Env.cons (law06_good_ok) (Env.cons (spring_New_ok K) (Env.cons (spring_Spring_Left_ok) (Env.cons (spring_Spring_Draw_ok K) (Env.cons (spring_Spring_Copy_ok) (Env.cons (spring_Spring_Feed_ok K) (Env.cons (book_SameBytes_ok K) (Env.nil _))))))))
noncomputable def law06_SpringThirsts_R (K : Nat) : List (Nat × RE) := [(10, law06_num_re)]
theorem law06_SpringThirsts_Rok (K : Nat) : REnv.Ok prog (tab (law06_SpringThirsts_R K)) := (REnv.cons (law06_num_ok) (REnv.nil _))
noncomputable def law06_SpringThirsts_s0 (K : Nat) (n1 : Int) (c2 : Addr) (w : World) : Option ((Bool × Unit) × World) :=
  (ldA 5 c2 w).bind fun v_3 =>
  bnd (law06_good v_3 w) fun r_4 w_5 =>
  if (!r_4.1) = true then (some ((true, ()), w_5)) else ((ldI .i64 (c2.add 1) w_5).bind fun v_6 =>
  if (decide (v_6 > 40)) = true then (some ((true, ()), w_5)) else (if (decide (n1 < 0)) = true then (some ((true, ()), w_5)) else (some (((decide (n1 > 64)), ()), w_5))))
noncomputable def law06_SpringThirsts_s1 (K : Nat) (s5 : Option Addr) (e6 : Int) (w : World) : Option ((Bool × Unit) × World) :=
  (law06_num e6).bind fun r_16 =>
  if (r_16.1 != 0) = true then (some ((true, ()), w)) else (some ((s5.isNone, ()), w))
noncomputable def law06_SpringThirsts_s4 (K : Nat) (c2 : Addr) (s5 : Option Addr) (i8 : Int) (w : World) : Option ((Bool × Unit) × World) :=
  (ldI .i64 (c2.add 1) w.drew).bind fun v_20 =>
  bnd (spring_Spring_Left s5 w.drew) fun r_21 w_22 =>
  (ldI .i64 (c2.add 1) w_22).bind fun v_23 =>
  sameK (.int .i64 v_20) (.int .i64 v_23) (some (((r_21.1 != (IntKind.i64.wrap (v_20 - i8))), ()), w_22))
noncomputable def law06_SpringThirsts_l3_b (K : Nat) (rec : Int → Addr → Option Addr → Int → Int → World → Option ((Out (Unit) (Bool × Unit)) × World)) (n1 : Int) (c2 : Addr) (s5 : Option Addr) (turn7 : Int) (i8 : Int) (w : World) : Option ((Out (Unit) (Bool × Unit)) × World) :=
  (ldI .i64 (c2.add 1) w).bind fun v_19 =>
  if (decide (i8 < v_19)) = true then (bnd (law06_SpringThirsts_s4 K c2 s5 i8 w) fun y_24 w_25 =>
  if y_24.1 = true then (some (.ret (false, ()), w_25)) else (bnd (spring_Spring_Draw K s5 n1 ⟨none, 0, 0⟩ w_25) fun r_26 w_27 =>
  (law06_num r_26.2.1).bind fun r_28 =>
  if (r_28.1 != 0) = true then (some (.ret (false, ()), w_27)) else (if (((r_26.1.len : Nat) : Int) != n1) = true then (some (.ret (false, ()), w_27)) else (rec n1 c2 s5 turn7 (IntKind.i64.wrap (i8 + 1)) w_27)))) else (some (.norm (), w))
noncomputable def law06_SpringThirsts_l3 (K : Nat) (n : Nat) : Int → Addr → Option Addr → Int → Int → World → Option ((Out (Unit) (Bool × Unit)) × World) := iter (fun _ _ _ _ _ _ => none) (law06_SpringThirsts_l3_b K) n
noncomputable def law06_SpringThirsts_s5 (K : Nat) (s5 : Option Addr) (t11 : Option Addr) (b12 : Sl) (e13 : Int) (w : World) : Option ((Bool × Unit) × World) :=
  (law06_num e13).bind fun r_36 =>
  if (r_36.1 != 61) = true then (some ((true, ()), w)) else (if (((b12.len : Nat) : Int) != 0) = true then (some ((true, ()), w)) else (bnd (spring_Spring_Left s5 w) fun r_37 w_38 =>
  if (r_37.1 != 0) = true then (some ((true, ()), w_38)) else (some ((t11.isNone, ()), w_38))))
noncomputable def law06_SpringThirsts_s6 (K : Nat) (c2 : Addr) (s5 : Option Addr) (t11 : Option Addr) (w : World) : Option ((Bool × Unit) × World) :=
  (ldS (c2.add 2) w).bind fun v_41 =>
  bnd (spring_Spring_Feed K s5 v_41 ⟨none, 0, 0⟩ w) fun r_42 w_43 =>
  (law06_num r_42.1).bind fun r_44 =>
  if (r_44.1 != 0) = true then (some ((true, ()), w_43)) else ((ldS (c2.add 2) w_43).bind fun v_45 =>
  bnd (spring_Spring_Feed K t11 v_45 ⟨none, 0, 0⟩ w_43) fun r_46 w_47 =>
  (law06_num r_46.1).bind fun r_48 =>
  some (((r_48.1 != 0), ()), w_47))
noncomputable def law06_SpringThirsts_l2_b (K : Nat) (rec : Int → Addr → Option Addr → Int → World → Option ((Out (Unit) (Bool × Unit)) × World)) (n1 : Int) (c2 : Addr) (s5 : Option Addr) (turn7 : Int) (w : World) : Option ((Out (Unit) (Bool × Unit)) × World) :=
  if (decide (turn7 < 2)) = true then (bnd (law06_SpringThirsts_l3 K K n1 c2 s5 turn7 0 w) fun y_29 w_30 =>
  (match y_29 with
  | .norm z_31n => (bnd (spring_Spring_Copy s5 w_30) fun r_32 w_33 =>
  bnd (spring_Spring_Draw K s5 n1 ⟨none, 0, 0⟩ w_33) fun r_34 w_35 =>
  bnd (law06_SpringThirsts_s5 K s5 r_32.1 r_34.1 r_34.2.1 w_35) fun y_39 w_40 =>
  if y_39.1 = true then (some (.ret (false, ()), w_40)) else (bnd (law06_SpringThirsts_s6 K c2 s5 r_32.1 w_40) fun y_49 w_50 =>
  if y_49.1 = true then (some (.ret (false, ()), w_50)) else (bnd (spring_Spring_Copy s5 w_50) fun r_51 w_52 =>
  bnd (spring_Spring_Draw K r_51.1 32 ⟨none, 0, 0⟩ w_52) fun r_53 w_54 =>
  bnd (spring_Spring_Draw K r_32.1 32 ⟨none, 0, 0⟩ w_54) fun r_55 w_56 =>
  (law06_num r_53.2.1).bind fun r_57 =>
  if (r_57.1 != 0) = true then (some (.ret (false, ()), w_56)) else ((law06_num r_55.2.1).bind fun r_58 =>
  if (r_58.1 != 0) = true then (some (.ret (false, ()), w_56)) else (bnd (book_SameBytes K r_53.1 r_55.1 w_56) fun r_59 w_60 =>
  if (!r_59.1) = true then (some (.ret (false, ()), w_60)) else (if (((r_53.1.len : Nat) : Int) != 32) = true then (some (.ret (false, ()), w_60)) else (rec n1 c2 s5 (IntKind.i64.wrap (turn7 + 1)) w_60)))))))
  | .ret z_31r => (some (.ret (z_31r.1, ()), w_30)))) else (some (.norm (), w))
noncomputable def law06_SpringThirsts_l2 (K : Nat) (n : Nat) : Int → Addr → Option Addr → Int → World → Option ((Out (Unit) (Bool × Unit)) × World) := iter (fun _ _ _ _ _ => none) (law06_SpringThirsts_l2_b K) n
/-- coffer/cofferlaw06.SpringThirsts -/
noncomputable def law06_SpringThirsts {β : Type} (K : Nat) (c0 : Array Value) (n1 : Int) (w : World) (k : (Bool × Unit) → World → Option β) : Option β :=
  bnd (newB c0 24 w) fun p_1 w_2 =>
  bnd (law06_SpringThirsts_s0 K n1 p_1 w_2) fun y_7 w_8 =>
  if y_7.1 = true then (k (true, ()) w_8) else ((ldI .i64 (p_1.add 0) w_8).bind fun v_9 =>
  (ldI .i64 (p_1.add 1) w_8).bind fun v_10 =>
  (ldS (p_1.add 2) w_8).bind fun v_11 =>
  (ldS (p_1.add 3) w_8).bind fun v_12 =>
  (ldS (p_1.add 4) w_8).bind fun v_13 =>
  spring_New K v_9 v_10 v_11 v_12 v_13 w_8 fun r_14 w_15 =>
  bnd (law06_SpringThirsts_s1 K r_14.1 r_14.2.1 w_15) fun y_17 w_18 =>
  if y_17.1 = true then (k (false, ()) w_18) else (bnd (law06_SpringThirsts_l2 K K n1 p_1 r_14.1 0 w_18) fun y_61 w_62 =>
  (match y_61 with
  | .norm z_63n => (k (true, ()) w_62)
  | .ret z_63r => (k (z_63r.1, ()) w_62))))
theorem law06_SpringThirsts_s0_ok (K : Nat) : StmtNOk prog [(1, .int .i64), (2, .addr)] [(32, .bool)] [(17, 33)] (fun x w => law06_SpringThirsts_s0 K x.1 x.2.1 w) (cd (bodyOf f5) [1, 0, 0]) :=
    mk_stmtN (O := tabL []) (root := (bodyOf f5)) (π := [1, 0, 0]) (Li := [(1, .int .i64), (2, .addr)]) (Lo := [(32, .bool)]) (S := (fun x w => law06_SpringThirsts_s0 K x.1 x.2.1 w)) (law06_SpringThirsts_Eok K) (law06_SpringThirsts_Rok K) rfl (Orc.nil _ _ _) (by kernel_rfl) (fun _ _ => by kernel_rfl)
noncomputable def law06_SpringThirsts_s0_se (K : Nat) : SE := stmtN [(1, .int .i64), (2, .addr)] [(32, .bool)] [(17, 33)] (fun x w => law06_SpringThirsts_s0 K x.1 x.2.1 w)
theorem law06_SpringThirsts_s0_se_ok (K : Nat) (R : Rg) (h : subRB [(17, 33)] R = true) : (law06_SpringThirsts_s0_se K).Ok prog R (cd (bodyOf f5) [1, 0, 0]) := stmtN_ok (Li := [(1, .int .i64), (2, .addr)]) (Lo := [(32, .bool)]) (S := (fun x w => law06_SpringThirsts_s0 K x.1 x.2.1 w)) (law06_SpringThirsts_s0_ok K) (subR_of h)
theorem law06_SpringThirsts_s1_ok (K : Nat) : StmtNOk prog [(5, .ptr), (6, .int .i64)] [(53, .bool)] [(47, 54)] (fun x w => law06_SpringThirsts_s1 K x.1 x.2.1 w) (cd (bodyOf f5) [1, 1, 1, 0, 0]) :=
    mk_stmtN (O := tabL []) (root := (bodyOf f5)) (π := [1, 1, 1, 0, 0]) (Li := [(5, .ptr), (6, .int .i64)]) (Lo := [(53, .bool)]) (S := (fun x w => law06_SpringThirsts_s1 K x.1 x.2.1 w)) (law06_SpringThirsts_Eok K) (law06_SpringThirsts_Rok K) rfl (Orc.nil _ _ _) (by kernel_rfl) (fun _ _ => by kernel_rfl)
noncomputable def law06_SpringThirsts_s1_se (K : Nat) : SE := stmtN [(5, .ptr), (6, .int .i64)] [(53, .bool)] [(47, 54)] (fun x w => law06_SpringThirsts_s1 K x.1 x.2.1 w)
theorem law06_SpringThirsts_s1_se_ok (K : Nat) (R : Rg) (h : subRB [(47, 54)] R = true) : (law06_SpringThirsts_s1_se K).Ok prog R (cd (bodyOf f5) [1, 1, 1, 0, 0]) := stmtN_ok (Li := [(5, .ptr), (6, .int .i64)]) (Lo := [(53, .bool)]) (S := (fun x w => law06_SpringThirsts_s1 K x.1 x.2.1 w)) (law06_SpringThirsts_s1_ok K) (subR_of h)
theorem law06_SpringThirsts_s4_ok (K : Nat) : StmtNOk prog [(2, .addr), (5, .ptr), (8, .int .i64)] [(70, .bool)] [(64, 71)] (fun x w => law06_SpringThirsts_s4 K x.1 x.2.1 x.2.2.1 w) (cd (bodyOf f5) [1, 1, 1, 1, 0, 1, 0, 0, 1, 0, 0, 0, 1, 0, 0, 1, 0, 0, 0, 0]) :=
    mk_regionH (R := [(64, 71)]) (Li := [(2, .addr), (5, .ptr), (8, .int .i64)]) (Lo := [(70, .bool)]) (S := (fun x w => law06_SpringThirsts_s4 K x.1 x.2.1 x.2.2.1 w)) (law06_SpringThirsts_Eok K) (law06_SpringThirsts_Rok K) rfl (fun _ _ => by kernel_rfl)
noncomputable def law06_SpringThirsts_s4_se (K : Nat) : SE := stmtN [(2, .addr), (5, .ptr), (8, .int .i64)] [(70, .bool)] [(64, 71)] (fun x w => law06_SpringThirsts_s4 K x.1 x.2.1 x.2.2.1 w)
theorem law06_SpringThirsts_s4_se_ok (K : Nat) (R : Rg) (h : subRB [(64, 71)] R = true) : (law06_SpringThirsts_s4_se K).Ok prog R (cd (bodyOf f5) [1, 1, 1, 1, 0, 1, 0, 0, 1, 0, 0, 0, 1, 0, 0, 1, 0, 0, 0, 0]) := stmtN_ok (Li := [(2, .addr), (5, .ptr), (8, .int .i64)]) (Lo := [(70, .bool)]) (S := (fun x w => law06_SpringThirsts_s4 K x.1 x.2.1 x.2.2.1 w)) (law06_SpringThirsts_s4_ok K) (subR_of h)
theorem law06_SpringThirsts_l3_ok (K : Nat) (n : Nat) : StmtOk prog [(1, .int .i64), (2, .addr), (5, .ptr), (7, .int .i64), (8, .int .i64)] [] [(4, .bool)] [(4, 5), (8, 11), (58, 86)] ((fun n x w => law06_SpringThirsts_l3 K n x.1 x.2.1 x.2.2.1 x.2.2.2.1 x.2.2.2.2.1 w) n) (.block 2 (.loop (cd (bodyOf f5) [1, 1, 1, 1, 0, 1, 0, 0, 1, 0, 0, 0, 1, 0, 0]))) :=
    mk_loop (O := tabL [([1, 1, 1, 1, 0, 1, 0, 0, 1, 0, 0, 0, 1, 0, 0, 1, 0, 0, 0, 0], law06_SpringThirsts_s4_se K)]) (root := (bodyOf f5)) (π := [1, 1, 1, 1, 0, 1, 0, 0, 1, 0, 0, 0, 1, 0, 0]) (id := 2) (Li := [(1, .int .i64), (2, .addr), (5, .ptr), (7, .int .i64), (8, .int .i64)]) (Lo := []) (Lr := [(4, .bool)]) (S := (fun n x w => law06_SpringThirsts_l3 K n x.1 x.2.1 x.2.2.1 x.2.2.2.1 x.2.2.2.2.1 w)) (body := cd (bodyOf f5) [1, 1, 1, 1, 0, 1, 0, 0, 1, 0, 0, 0, 1, 0, 0]) (law06_SpringThirsts_Eok K) (law06_SpringThirsts_Rok K) rfl (Orc.cons (by kernel_rfl) (law06_SpringThirsts_s4_se_ok K [(4, 5), (8, 11), (58, 86)] (by kernel_rfl)) (Orc.nil _ _ _)) (by kernel_rfl) (fun _ _ => by kernel_rfl) (fun _ _ _ => by kernel_rfl) n
noncomputable def law06_SpringThirsts_l3_se (K : Nat) : SE := stmt [(1, .int .i64), (2, .addr), (5, .ptr), (7, .int .i64), (8, .int .i64)] [] [(4, .bool)] [(4, 5), (8, 11), (58, 86)] (fun x w => law06_SpringThirsts_l3 K K x.1 x.2.1 x.2.2.1 x.2.2.2.1 x.2.2.2.2.1 w)
theorem law06_SpringThirsts_l3_se_ok (K : Nat) (R : Rg) (h : subRB [(4, 5), (8, 11), (58, 86)] R = true) : (law06_SpringThirsts_l3_se K).Ok prog R (.block 2 (.loop (cd (bodyOf f5) [1, 1, 1, 1, 0, 1, 0, 0, 1, 0, 0, 0, 1, 0, 0]))) := stmt_ok (Li := [(1, .int .i64), (2, .addr), (5, .ptr), (7, .int .i64), (8, .int .i64)]) (Lo := []) (Lr := [(4, .bool)]) (S := (fun x w => law06_SpringThirsts_l3 K K x.1 x.2.1 x.2.2.1 x.2.2.2.1 x.2.2.2.2.1 w)) (law06_SpringThirsts_l3_ok K K) (subR_of h)
theorem law06_SpringThirsts_s5_ok (K : Nat) : StmtNOk prog [(5, .ptr), (11, .ptr), (12, .sl), (13, .int .i64)] [(110, .bool)] [(94, 111)] (fun x w => law06_SpringThirsts_s5 K x.1 x.2.1 x.2.2.1 x.2.2.2.1 w) (cd (bodyOf f5) [1, 1, 1, 1, 0, 1, 0, 0, 1, 0, 0, 1, 1, 1, 0, 0]) :=
    mk_stmtN (O := tabL []) (root := (bodyOf f5)) (π := [1, 1, 1, 1, 0, 1, 0, 0, 1, 0, 0, 1, 1, 1, 0, 0]) (Li := [(5, .ptr), (11, .ptr), (12, .sl), (13, .int .i64)]) (Lo := [(110, .bool)]) (S := (fun x w => law06_SpringThirsts_s5 K x.1 x.2.1 x.2.2.1 x.2.2.2.1 w)) (law06_SpringThirsts_Eok K) (law06_SpringThirsts_Rok K) rfl (Orc.nil _ _ _) (by kernel_rfl) (fun _ _ => by kernel_rfl)
noncomputable def law06_SpringThirsts_s5_se (K : Nat) : SE := stmtN [(5, .ptr), (11, .ptr), (12, .sl), (13, .int .i64)] [(110, .bool)] [(94, 111)] (fun x w => law06_SpringThirsts_s5 K x.1 x.2.1 x.2.2.1 x.2.2.2.1 w)
theorem law06_SpringThirsts_s5_se_ok (K : Nat) (R : Rg) (h : subRB [(94, 111)] R = true) : (law06_SpringThirsts_s5_se K).Ok prog R (cd (bodyOf f5) [1, 1, 1, 1, 0, 1, 0, 0, 1, 0, 0, 1, 1, 1, 0, 0]) := stmtN_ok (Li := [(5, .ptr), (11, .ptr), (12, .sl), (13, .int .i64)]) (Lo := [(110, .bool)]) (S := (fun x w => law06_SpringThirsts_s5 K x.1 x.2.1 x.2.2.1 x.2.2.2.1 w)) (law06_SpringThirsts_s5_ok K) (subR_of h)
theorem law06_SpringThirsts_s6_ok (K : Nat) : StmtNOk prog [(2, .addr), (5, .ptr), (11, .ptr)] [(124, .bool)] [(111, 125)] (fun x w => law06_SpringThirsts_s6 K x.1 x.2.1 x.2.2.1 w) (cd (bodyOf f5) [1, 1, 1, 1, 0, 1, 0, 0, 1, 0, 0, 1, 1, 1, 1, 0, 0]) :=
    mk_stmtN (O := tabL []) (root := (bodyOf f5)) (π := [1, 1, 1, 1, 0, 1, 0, 0, 1, 0, 0, 1, 1, 1, 1, 0, 0]) (Li := [(2, .addr), (5, .ptr), (11, .ptr)]) (Lo := [(124, .bool)]) (S := (fun x w => law06_SpringThirsts_s6 K x.1 x.2.1 x.2.2.1 w)) (law06_SpringThirsts_Eok K) (law06_SpringThirsts_Rok K) rfl (Orc.nil _ _ _) (by kernel_rfl) (fun _ _ => by kernel_rfl)
noncomputable def law06_SpringThirsts_s6_se (K : Nat) : SE := stmtN [(2, .addr), (5, .ptr), (11, .ptr)] [(124, .bool)] [(111, 125)] (fun x w => law06_SpringThirsts_s6 K x.1 x.2.1 x.2.2.1 w)
theorem law06_SpringThirsts_s6_se_ok (K : Nat) (R : Rg) (h : subRB [(111, 125)] R = true) : (law06_SpringThirsts_s6_se K).Ok prog R (cd (bodyOf f5) [1, 1, 1, 1, 0, 1, 0, 0, 1, 0, 0, 1, 1, 1, 1, 0, 0]) := stmtN_ok (Li := [(2, .addr), (5, .ptr), (11, .ptr)]) (Lo := [(124, .bool)]) (S := (fun x w => law06_SpringThirsts_s6 K x.1 x.2.1 x.2.2.1 w)) (law06_SpringThirsts_s6_ok K) (subR_of h)
theorem law06_SpringThirsts_l2_ok (K : Nat) (n : Nat) : StmtOk prog [(1, .int .i64), (2, .addr), (5, .ptr), (7, .int .i64)] [] [(4, .bool)] [(4, 5), (7, 17), (54, 155)] ((fun n x w => law06_SpringThirsts_l2 K n x.1 x.2.1 x.2.2.1 x.2.2.2.1 w) n) (.block 0 (.loop (cd (bodyOf f5) [1, 1, 1, 1, 0, 1, 0, 0]))) :=
    mk_loop (O := tabL [([1, 1, 1, 1, 0, 1, 0, 0, 1, 0, 0, 0, 1], law06_SpringThirsts_l3_se K), ([1, 1, 1, 1, 0, 1, 0, 0, 1, 0, 0, 0, 1, 0, 0, 1, 0, 0, 0, 0], law06_SpringThirsts_s4_se K), ([1, 1, 1, 1, 0, 1, 0, 0, 1, 0, 0, 1, 1, 1, 0, 0], law06_SpringThirsts_s5_se K), ([1, 1, 1, 1, 0, 1, 0, 0, 1, 0, 0, 1, 1, 1, 1, 0, 0], law06_SpringThirsts_s6_se K)]) (root := (bodyOf f5)) (π := [1, 1, 1, 1, 0, 1, 0, 0]) (id := 0) (Li := [(1, .int .i64), (2, .addr), (5, .ptr), (7, .int .i64)]) (Lo := []) (Lr := [(4, .bool)]) (S := (fun n x w => law06_SpringThirsts_l2 K n x.1 x.2.1 x.2.2.1 x.2.2.2.1 w)) (body := cd (bodyOf f5) [1, 1, 1, 1, 0, 1, 0, 0]) (law06_SpringThirsts_Eok K) (law06_SpringThirsts_Rok K) rfl (Orc.cons (by kernel_rfl) (law06_SpringThirsts_l3_se_ok K [(4, 5), (7, 17), (54, 155)] (by kernel_rfl)) (Orc.cons (by kernel_rfl) (law06_SpringThirsts_s4_se_ok K [(4, 5), (7, 17), (54, 155)] (by kernel_rfl)) (Orc.cons (by kernel_rfl) (law06_SpringThirsts_s5_se_ok K [(4, 5), (7, 17), (54, 155)] (by kernel_rfl)) (Orc.cons (by kernel_rfl) (law06_SpringThirsts_s6_se_ok K [(4, 5), (7, 17), (54, 155)] (by kernel_rfl)) (Orc.nil _ _ _))))) (by kernel_rfl) (fun _ _ => by kernel_rfl) (fun _ _ _ => by kernel_rfl) n
noncomputable def law06_SpringThirsts_l2_se (K : Nat) : SE := stmt [(1, .int .i64), (2, .addr), (5, .ptr), (7, .int .i64)] [] [(4, .bool)] [(4, 5), (7, 17), (54, 155)] (fun x w => law06_SpringThirsts_l2 K K x.1 x.2.1 x.2.2.1 x.2.2.2.1 w)
theorem law06_SpringThirsts_l2_se_ok (K : Nat) (R : Rg) (h : subRB [(4, 5), (7, 17), (54, 155)] R = true) : (law06_SpringThirsts_l2_se K).Ok prog R (.block 0 (.loop (cd (bodyOf f5) [1, 1, 1, 1, 0, 1, 0, 0]))) := stmt_ok (Li := [(1, .int .i64), (2, .addr), (5, .ptr), (7, .int .i64)]) (Lo := []) (Lr := [(4, .bool)]) (S := (fun x w => law06_SpringThirsts_l2 K K x.1 x.2.1 x.2.2.1 x.2.2.2.1 w)) (law06_SpringThirsts_l2_ok K K) (subR_of h)
theorem law06_SpringThirsts_facts : FunFacts prog 5 f5 (bodyOf f5) [(0, .agg), (1, .int .i64)] [(0, 155)] := ⟨func5, by kernel_rfl, by kernel_rfl, by kernel_rfl, by kernel_rfl, by kernel_rfl⟩
theorem law06_SpringThirsts_calls (K : Nat) {β : Type} (x : TT [(0, .agg), (1, .int .i64)]) (w : World) (k : TR [.bool] → World → Option β) (r : β) (h : law06_SpringThirsts K x.1 x.2.1 w k = some r) : Calls prog 5 (encA [(0, .agg), (1, .int .i64)] x).toArray w (fun e w3 => ∃ y, e = .returned (resV (encR [.bool] y)) ∧ k y w3 = some r) :=
    mk_funC (O := tabL [([1, 0, 0], law06_SpringThirsts_s0_se K), ([1, 1, 1, 0, 0], law06_SpringThirsts_s1_se K), ([1, 1, 1, 1, 0, 1], law06_SpringThirsts_l2_se K), ([1, 1, 1, 1, 0, 1, 0, 0, 1, 0, 0, 0, 1], law06_SpringThirsts_l3_se K), ([1, 1, 1, 1, 0, 1, 0, 0, 1, 0, 0, 0, 1, 0, 0, 1, 0, 0, 0, 0], law06_SpringThirsts_s4_se K), ([1, 1, 1, 1, 0, 1, 0, 0, 1, 0, 0, 1, 1, 1, 0, 0], law06_SpringThirsts_s5_se K), ([1, 1, 1, 1, 0, 1, 0, 0, 1, 0, 0, 1, 1, 1, 1, 0, 0], law06_SpringThirsts_s6_se K)]) (Lp := [(0, .agg), (1, .int .i64)]) (Rt := [.bool]) (S := (fun x w k => law06_SpringThirsts K x.1 x.2.1 w k)) (law06_SpringThirsts_Eok K) (law06_SpringThirsts_Rok K) rfl law06_SpringThirsts_facts (Orc.cons (by kernel_rfl) (law06_SpringThirsts_s0_se_ok K [(0, 155)] (by kernel_rfl)) (Orc.cons (by kernel_rfl) (law06_SpringThirsts_s1_se_ok K [(0, 155)] (by kernel_rfl)) (Orc.cons (by kernel_rfl) (law06_SpringThirsts_l2_se_ok K [(0, 155)] (by kernel_rfl)) (Orc.cons (by kernel_rfl) (law06_SpringThirsts_l3_se_ok K [(0, 155)] (by kernel_rfl)) (Orc.cons (by kernel_rfl) (law06_SpringThirsts_s4_se_ok K [(0, 155)] (by kernel_rfl)) (Orc.cons (by kernel_rfl) (law06_SpringThirsts_s5_se_ok K [(0, 155)] (by kernel_rfl)) (Orc.cons (by kernel_rfl) (law06_SpringThirsts_s6_se_ok K [(0, 155)] (by kernel_rfl)) (Orc.nil _ _ _)))))))) (fun _ _ _ => by kernel_rfl) x w k r h
noncomputable def law06_SpringThirsts_ce (K : Nat) : CE := funC [(0, .agg), (1, .int .i64)] [.bool] (fun {_} x w k => law06_SpringThirsts K x.1 x.2.1 w k)
theorem law06_SpringThirsts_ok (K : Nat) : (law06_SpringThirsts_ce K).Ok prog 5 := funC_ok (Rt := [.bool]) (S := (fun {_} x w k => law06_SpringThirsts K x.1 x.2.1 w k)) law06_SpringThirsts_facts fun x w k r h => law06_SpringThirsts_calls K x w k r h

end Go.Sh
