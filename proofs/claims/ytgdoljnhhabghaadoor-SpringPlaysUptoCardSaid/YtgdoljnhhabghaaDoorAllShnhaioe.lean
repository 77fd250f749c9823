/- Texts of this claim, put together: Sh6 -/
import Derived.Test.YtgdoljnhhabghaaDoorAllShchnekh
/- What functions of the program do, as Lean functions; that the machine does just that. Printed by shal.py, a program of this claim's writer. -/
set_option maxRecDepth 100000
set_option linter.unusedVariables false
namespace Go.Sh
open Go.Fw Go.Proofs.Tryd

noncomputable def law06_lent_E (K : Nat) : List (Nat × CE) := [(25, book_Bytes_ce K)]
theorem law06_lent_Eok (K : Nat) : Env.Ok prog (tab (law06_lent_E K)) := (Env.cons (book_Bytes_ok K) (Env.nil _))
noncomputable def law06_lent_R (K : Nat) : List (Nat × RE) := []
theorem law06_lent_Rok (K : Nat) : REnv.Ok prog (tab (law06_lent_R K)) := (REnv.nil _)
noncomputable def law06_lent_l0_b (K : Nat) (rec : Sl → Sl → Int → World → Option ((Sl × Unit) × World)) (parts0 : Sl) (l3 : Sl) (i4 : Int) (w : World) : Option ((Sl × Unit) × World) :=
  if (decide (i4 < ((parts0.len : Nat) : Int))) = true then ((parts0.a).bind fun p_1 =>
  if (0 : Int) ≤ i4 ∧ i4 < ((parts0.len : Nat) : Int) then ((ldS (p_1.add ((Int.toNat i4) * 1)) w).bind fun v_2 =>
  bnd (book_Bytes K v_2 w) fun r_3 w_4 =>
  bnd (bldS prog 32 1 #[(0, (.slice r_3.1.a r_3.1.len r_3.1.cap))] w_4) fun s_5 w_6 =>
  bnd (apd prog 32 32 (.slice l3.a l3.len l3.cap) (.slice s_5.a s_5.len s_5.cap) w_6) fun s_7 w_8 =>
  rec parts0 s_7 (IntKind.i64.wrap (i4 + 1)) w_8) else none) else (some ((l3, ()), w))
noncomputable def law06_lent_l0 (K : Nat) (n : Nat) : Sl → Sl → Int → World → Option ((Sl × Unit) × World) := iter (fun _ _ _ _ => none) (law06_lent_l0_b K) n
/-- coffer/cofferlaw06.lent -/
noncomputable def law06_lent (K : Nat) (parts0 : Sl) (w : World) : Option ((Sl × Unit) × World) :=
  bnd (law06_lent_l0 K K parts0 ⟨none, 0, 0⟩ 0 w) fun y_9 w_10 =>
  some ((y_9.1, ()), w_10)
theorem law06_lent_l0_ok (K : Nat) (n : Nat) : StmtNOk prog [(0, .sl), (3, .sl), (4, .int .i64)] [(3, .sl)] [(3, 21)] ((fun n x w => law06_lent_l0 K n x.1 x.2.1 x.2.2.1 w) n) (.block 0 (.loop (cd (bodyOf f29) [1, 1, 0, 1, 0, 0]))) :=
    mk_loopN (O := tabL []) (root := (bodyOf f29)) (π := [1, 1, 0, 1, 0, 0]) (id := 0) (Li := [(0, .sl), (3, .sl), (4, .int .i64)]) (Lo := [(3, .sl)]) (S := (fun n x w => law06_lent_l0 K n x.1 x.2.1 x.2.2.1 w)) (body := cd (bodyOf f29) [1, 1, 0, 1, 0, 0]) (law06_lent_Eok K) (law06_lent_Rok K) rfl (Orc.nil _ _ _) (by kernel_rfl) (fun _ _ => by kernel_rfl) (fun _ _ _ => by kernel_rfl) n
noncomputable def law06_lent_l0_se (K : Nat) : SE := stmtN [(0, .sl), (3, .sl), (4, .int .i64)] [(3, .sl)] [(3, 21)] (fun x w => law06_lent_l0 K K x.1 x.2.1 x.2.2.1 w)
theorem law06_lent_l0_se_ok (K : Nat) (R : Rg) (h : subRB [(3, 21)] R = true) : (law06_lent_l0_se K).Ok prog R (.block 0 (.loop (cd (bodyOf f29) [1, 1, 0, 1, 0, 0]))) := stmtN_ok (Li := [(0, .sl), (3, .sl), (4, .int .i64)]) (Lo := [(3, .sl)]) (S := (fun x w => law06_lent_l0 K K x.1 x.2.1 x.2.2.1 w)) (law06_lent_l0_ok K K) (subR_of h)
theorem law06_lent_facts : FunFacts prog 29 f29 (bodyOf f29) [(0, .sl)] [(0, 22)] := ⟨func29, by kernel_rfl, by kernel_rfl, by kernel_rfl, by kernel_rfl, by kernel_rfl⟩
theorem law06_lent_calls (K : Nat) (x : TT [(0, .sl)]) (w : World) (y : TR [.sl]) (w2 : World) (h : law06_lent K x.1 w = some (y, w2)) : Calls prog 29 (encA [(0, .sl)] x).toArray w (fun e w3 => e = .returned (resV (encR [.sl] y)) ∧ w3 = w2) :=
    mk_fun (O := tabL [([1, 1, 0, 1], law06_lent_l0_se K)]) (Lp := [(0, .sl)]) (Rt := [.sl]) (S := (fun x w => law06_lent K x.1 w)) (law06_lent_Eok K) (law06_lent_Rok K) rfl law06_lent_facts (Orc.cons (by kernel_rfl) (law06_lent_l0_se_ok K [(0, 22)] (by kernel_rfl)) (Orc.nil _ _ _)) (fun _ _ => by kernel_rfl) x w y w2 h
noncomputable def law06_lent_ce (K : Nat) : CE := funE [(0, .sl)] [.sl] (fun x w => law06_lent K x.1 w)
theorem law06_lent_ok (K : Nat) : (law06_lent_ce K).Ok prog 29 := funE_ok (Rt := [.sl]) (S := (fun x w => law06_lent K x.1 w)) law06_lent_facts fun x w y w2 h => law06_lent_calls K x w y w2 h

noncomputable def ref06_Spring_Draw_E (K : Nat) : List (Nat × CE) := [(43, ref06_joined_ce K), (44, ref06_Spring_update_ce K), (45, ref01_Code_ce K)]
theorem ref06_Spring_Draw_Eok (K : Nat) : Env.Ok prog (tab (ref06_Spring_Draw_E K)) := (Env.cons (ref06_joined_ok K) (Env.cons (ref06_Spring_update_ok K) (Env.cons (ref01_Code_ok K) (Env.nil _))))
noncomputable def ref06_Spring_Draw_R (K : Nat) : List (Nat × RE) := []
theorem ref06_Spring_Draw_Rok (K : Nat) : REnv.Ok prog (tab (ref06_Spring_Draw_R K)) := (REnv.nil _)
noncomputable def ref06_Spring_Draw_s1 (K : Nat) (n1 : Int) (x8 : Sl) (w : World) : Option ((Bool × Unit) × World) :=
  if (decide (n1 > 65536)) = true then (some ((true, ()), w)) else (some (((decide (((x8.len : Nat) : Int) > 65536)), ()), w))
noncomputable def ref06_Spring_Draw_s0 (K : Nat) (s0 : Option Addr) (n1 : Int) (x8 : Sl) (w : World) : Option ((Out (Unit) (Sl × Int × Unit)) × World) :=
  if s0.isNone = true then (some (.ret (⟨none, 0, 0⟩, 1, ()), w)) else (if (decide (n1 < 0)) = true then (some (.ret (⟨none, 0, 0⟩, 2, ()), w)) else (bnd (ref06_Spring_Draw_s1 K n1 x8 w) fun y_3 w_4 =>
  if y_3.1 = true then (some (.ret (⟨none, 0, 0⟩, 4, ()), w_4)) else ((s0).bind fun p_5 =>
  (s0).bind fun p_6 =>
  (ldI .i64 (p_5.add 2) w_4.drew).bind fun v_7 =>
  (ldI .i64 (p_6.add 1) w_4.drew).bind fun v_8 =>
  if (v_7 == v_8) = true then (some (.ret (⟨none, 0, 0⟩, 61, ()), w_4.drew)) else (some (.norm (), w_4.drew)))))
noncomputable def ref06_Spring_Draw_s2 (K : Nat) (s0 : Option Addr) (x8 : Sl) (a38 : Bool) (w : World) : Option ((Unit) × World) :=
  if a38 = true then (bnd (ref06_Spring_update K s0 x8 w) fun r_12 w_13 =>
  some ((), w_13)) else (some ((), w))
noncomputable def ref06_Spring_Draw_l3_b (K : Nat) (rec : Option Addr → Int → Sl → Sl → World → Option ((Sl × Unit) × World)) (s0 : Option Addr) (n1 : Int) (x8 : Sl) (out9 : Sl) (w : World) : Option ((Sl × Unit) × World) :=
  if (decide (((out9.len : Nat) : Int) < n1)) = true then ((s0).bind fun p_16 =>
  (s0).bind fun p_17 =>
  (s0).bind fun p_18 =>
  (ldI .i64 (p_16.add 0) w.drew).bind fun v_19 =>
  (ldS (p_17.add 3) w.drew).bind fun v_20 =>
  (ldS (p_18.add 4) w.drew).bind fun v_21 =>
  bnd (ref01_Code K v_19 v_20 v_21 w.drew) fun r_22 w_23 =>
  (s0).bind fun p_24 =>
  (stC (p_24.add 4) (.slice r_22.1.a r_22.1.len r_22.1.cap) w_23).bind fun w_25 =>
  (s0).bind fun p_26 =>
  (ldS (p_26.add 4) w_25).bind fun v_27 =>
  bnd (apd prog 22 22 (.slice out9.a out9.len out9.cap) (.slice v_27.a v_27.len v_27.cap) w_25) fun s_28 w_29 =>
  rec s0 n1 x8 s_28 w_29) else (some ((out9, ()), w))
noncomputable def ref06_Spring_Draw_l3 (K : Nat) (n : Nat) : Option Addr → Int → Sl → Sl → World → Option ((Sl × Unit) × World) := iter (fun _ _ _ _ _ => none) (ref06_Spring_Draw_l3_b K) n
/-- (*coffer/cofferref06.Spring).Draw -/
noncomputable def ref06_Spring_Draw (K : Nat) (s0 : Option Addr) (n1 : Int) (extra2 : Sl) (w : World) : Option ((Sl × Int × Unit) × World) :=
  bnd (ref06_joined K extra2 w) fun r_1 w_2 =>
  bnd (ref06_Spring_Draw_s0 K s0 n1 r_1.1 w_2) fun y_9 w_10 =>
  (match y_9 with
  | .norm z_11n => (bnd (ref06_Spring_Draw_s2 K s0 r_1.1 (decide (((r_1.1.len : Nat) : Int) > 0)) w_10) fun y_14 w_15 =>
  bnd (ref06_Spring_Draw_l3 K K s0 n1 r_1.1 ⟨none, 0, 0⟩ w_15) fun y_30 w_31 =>
  bnd (ref06_Spring_update K s0 r_1.1 w_31) fun r_32 w_33 =>
  (s0).bind fun p_34 =>
  (ldI .i64 (p_34.add 2) w_33).bind fun v_35 =>
  (s0).bind fun p_36 =>
  (stC (p_36.add 2) (.int .i64 (IntKind.i64.wrap (v_35 + 1))) w_33).bind fun w_37 =>
  if (0 : Int) ≤ n1 ∧ n1 ≤ ((y_30.1.cap : Nat) : Int) then (some ((⟨(sla y_30.1.a 0 y_30.1.cap 1), ((Int.toNat (n1)) - 0), (y_30.1.cap - 0)⟩, 0, ()), w_37)) else none)
  | .ret z_11r => (some ((z_11r.1, z_11r.2.1, ()), w_10)))
theorem ref06_Spring_Draw_s1_ok (K : Nat) : StmtNOk prog [(1, .int .i64), (8, .sl)] [(18, .bool)] [(18, 26)] (fun x w => ref06_Spring_Draw_s1 K x.1 x.2.1 w) (cd (bodyOf f30) [1, 1, 0, 0, 1, 1, 1, 1, 0]) :=
    mk_stmtN (O := tabL []) (root := (bodyOf f30)) (π := [1, 1, 0, 0, 1, 1, 1, 1, 0]) (Li := [(1, .int .i64), (8, .sl)]) (Lo := [(18, .bool)]) (S := (fun x w => ref06_Spring_Draw_s1 K x.1 x.2.1 w)) (ref06_Spring_Draw_Eok K) (ref06_Spring_Draw_Rok K) rfl (Orc.nil _ _ _) (by kernel_rfl) (fun _ _ => by kernel_rfl)
noncomputable def ref06_Spring_Draw_s1_se (K : Nat) : SE := stmtN [(1, .int .i64), (8, .sl)] [(18, .bool)] [(18, 26)] (fun x w => ref06_Spring_Draw_s1 K x.1 x.2.1 w)
theorem ref06_Spring_Draw_s1_se_ok (K : Nat) (R : Rg) (h : subRB [(18, 26)] R = true) : (ref06_Spring_Draw_s1_se K).Ok prog R (cd (bodyOf f30) [1, 1, 0, 0, 1, 1, 1, 1, 0]) := stmtN_ok (Li := [(1, .int .i64), (8, .sl)]) (Lo := [(18, .bool)]) (S := (fun x w => ref06_Spring_Draw_s1 K x.1 x.2.1 w)) (ref06_Spring_Draw_s1_ok K) (subR_of h)
theorem ref06_Spring_Draw_s0_ok (K : Nat) : StmtOk prog [(0, .ptr), (1, .int .i64), (8, .sl)] [] [(6, .sl), (7, .int .i64)] [(6, 8), (12, 36)] (fun x w => ref06_Spring_Draw_s0 K x.1 x.2.1 x.2.2.1 w) (cd (bodyOf f30) [1, 1, 0]) :=
    mk_stmt (O := tabL [([1, 1, 0, 0, 1, 1, 1, 1, 0], ref06_Spring_Draw_s1_se K)]) (root := (bodyOf f30)) (π := [1, 1, 0]) (Li := [(0, .ptr), (1, .int .i64), (8, .sl)]) (Lo := []) (Lr := [(6, .sl), (7, .int .i64)]) (S := (fun x w => ref06_Spring_Draw_s0 K x.1 x.2.1 x.2.2.1 w)) (ref06_Spring_Draw_Eok K) (ref06_Spring_Draw_Rok K) rfl (Orc.cons (by kernel_rfl) (ref06_Spring_Draw_s1_se_ok K [(6, 8), (12, 36)] (by kernel_rfl)) (Orc.nil _ _ _)) (by kernel_rfl) (fun _ _ => by kernel_rfl)
noncomputable def ref06_Spring_Draw_s0_se (K : Nat) : SE := stmt [(0, .ptr), (1, .int .i64), (8, .sl)] [] [(6, .sl), (7, .int .i64)] [(6, 8), (12, 36)] (fun x w => ref06_Spring_Draw_s0 K x.1 x.2.1 x.2.2.1 w)
theorem ref06_Spring_Draw_s0_se_ok (K : Nat) (R : Rg) (h : subRB [(6, 8), (12, 36)] R = true) : (ref06_Spring_Draw_s0_se K).Ok prog R (cd (bodyOf f30) [1, 1, 0]) := stmt_ok (Li := [(0, .ptr), (1, .int .i64), (8, .sl)]) (Lo := []) (Lr := [(6, .sl), (7, .int .i64)]) (S := (fun x w => ref06_Spring_Draw_s0 K x.1 x.2.1 x.2.2.1 w)) (ref06_Spring_Draw_s0_ok K) (subR_of h)
theorem ref06_Spring_Draw_s2_ok (K : Nat) : StmtNOk prog [(0, .ptr), (8, .sl), (38, .bool)] [] [(39, 42)] (fun x w => ref06_Spring_Draw_s2 K x.1 x.2.1 x.2.2.1 w) (cd (bodyOf f30) [1, 1, 1, 0, 1]) :=
    mk_stmtN (O := tabL []) (root := (bodyOf f30)) (π := [1, 1, 1, 0, 1]) (Li := [(0, .ptr), (8, .sl), (38, .bool)]) (Lo := []) (S := (fun x w => ref06_Spring_Draw_s2 K x.1 x.2.1 x.2.2.1 w)) (ref06_Spring_Draw_Eok K) (ref06_Spring_Draw_Rok K) rfl (Orc.nil _ _ _) (by kernel_rfl) (fun _ _ => by kernel_rfl)
noncomputable def ref06_Spring_Draw_s2_se (K : Nat) : SE := stmtN [(0, .ptr), (8, .sl), (38, .bool)] [] [(39, 42)] (fun x w => ref06_Spring_Draw_s2 K x.1 x.2.1 x.2.2.1 w)
theorem ref06_Spring_Draw_s2_se_ok (K : Nat) (R : Rg) (h : subRB [(39, 42)] R = true) : (ref06_Spring_Draw_s2_se K).Ok prog R (cd (bodyOf f30) [1, 1, 1, 0, 1]) := stmtN_ok (Li := [(0, .ptr), (8, .sl), (38, .bool)]) (Lo := []) (S := (fun x w => ref06_Spring_Draw_s2 K x.1 x.2.1 x.2.2.1 w)) (ref06_Spring_Draw_s2_ok K) (subR_of h)
theorem ref06_Spring_Draw_l3_ok (K : Nat) (n : Nat) : StmtNOk prog [(0, .ptr), (1, .int .i64), (8, .sl), (9, .sl)] [(9, .sl)] [(9, 10), (42, 68)] ((fun n x w => ref06_Spring_Draw_l3 K n x.1 x.2.1 x.2.2.1 x.2.2.2.1 w) n) (.block 1 (.loop (cd (bodyOf f30) [1, 1, 1, 1, 1, 0, 0, 0]))) :=
    mk_loopN (O := tabL []) (root := (bodyOf f30)) (π := [1, 1, 1, 1, 1, 0, 0, 0]) (id := 1) (Li := [(0, .ptr), (1, .int .i64), (8, .sl), (9, .sl)]) (Lo := [(9, .sl)]) (S := (fun n x w => ref06_Spring_Draw_l3 K n x.1 x.2.1 x.2.2.1 x.2.2.2.1 w)) (body := cd (bodyOf f30) [1, 1, 1, 1, 1, 0, 0, 0]) (ref06_Spring_Draw_Eok K) (ref06_Spring_Draw_Rok K) rfl (Orc.nil _ _ _) (by kernel_rfl) (fun _ _ => by kernel_rfl) (fun _ _ _ => by kernel_rfl) n
noncomputable def ref06_Spring_Draw_l3_se (K : Nat) : SE := stmtN [(0, .ptr), (1, .int .i64), (8, .sl), (9, .sl)] [(9, .sl)] [(9, 10), (42, 68)] (fun x w => ref06_Spring_Draw_l3 K K x.1 x.2.1 x.2.2.1 x.2.2.2.1 w)
theorem ref06_Spring_Draw_l3_se_ok (K : Nat) (R : Rg) (h : subRB [(9, 10), (42, 68)] R = true) : (ref06_Spring_Draw_l3_se K).Ok prog R (.block 1 (.loop (cd (bodyOf f30) [1, 1, 1, 1, 1, 0, 0, 0]))) := stmtN_ok (Li := [(0, .ptr), (1, .int .i64), (8, .sl), (9, .sl)]) (Lo := [(9, .sl)]) (S := (fun x w => ref06_Spring_Draw_l3 K K x.1 x.2.1 x.2.2.1 x.2.2.2.1 w)) (ref06_Spring_Draw_l3_ok K K) (subR_of h)
theorem ref06_Spring_Draw_facts : FunFacts prog 30 f30 (bodyOf f30) [(0, .ptr), (1, .int .i64), (2, .sl)] [(0, 81)] := ⟨func30, by kernel_rfl, by kernel_rfl, by kernel_rfl, by kernel_rfl, by kernel_rfl⟩
theorem ref06_Spring_Draw_calls (K : Nat) (x : TT [(0, .ptr), (1, .int .i64), (2, .sl)]) (w : World) (y : TR [.sl, .int .i64]) (w2 : World) (h : ref06_Spring_Draw K x.1 x.2.1 x.2.2.1 w = some (y, w2)) : Calls prog 30 (encA [(0, .ptr), (1, .int .i64), (2, .sl)] x).toArray w (fun e w3 => e = .returned (resV (encR [.sl, .int .i64] y)) ∧ w3 = w2) :=
    mk_fun (O := tabL [([1, 1, 0], ref06_Spring_Draw_s0_se K), ([1, 1, 0, 0, 1, 1, 1, 1, 0], ref06_Spring_Draw_s1_se K), ([1, 1, 1, 0, 1], ref06_Spring_Draw_s2_se K), ([1, 1, 1, 1, 1, 0], ref06_Spring_Draw_l3_se K)]) (Lp := [(0, .ptr), (1, .int .i64), (2, .sl)]) (Rt := [.sl, .int .i64]) (S := (fun x w => ref06_Spring_Draw K x.1 x.2.1 x.2.2.1 w)) (ref06_Spring_Draw_Eok K) (ref06_Spring_Draw_Rok K) rfl ref06_Spring_Draw_facts (Orc.cons (by kernel_rfl) (ref06_Spring_Draw_s0_se_ok K [(0, 81)] (by kernel_rfl)) (Orc.cons (by kernel_rfl) (ref06_Spring_Draw_s1_se_ok K [(0, 81)] (by kernel_rfl)) (Orc.cons (by kernel_rfl) (ref06_Spring_Draw_s2_se_ok K [(0, 81)] (by kernel_rfl)) (Orc.cons (by kernel_rfl) (ref06_Spring_Draw_l3_se_ok K [(0, 81)] (by kernel_rfl)) (Orc.nil _ _ _))))) (fun _ _ => by kernel_rfl) x w y w2 h
noncomputable def ref06_Spring_Draw_ce (K : Nat) : CE := funE [(0, .ptr), (1, .int .i64), (2, .sl)] [.sl, .int .i64] (fun x w => ref06_Spring_Draw K x.1 x.2.1 x.2.2.1 w)
theorem ref06_Spring_Draw_ok (K : Nat) : (ref06_Spring_Draw_ce K).Ok prog 30 := funE_ok (Rt := [.sl, .int .i64]) (S := (fun x w => ref06_Spring_Draw K x.1 x.2.1 x.2.2.1 w)) ref06_Spring_Draw_facts fun x w y w2 h => ref06_Spring_Draw_calls K x w y w2 h

noncomputable def law06_kept_E (K : Nat) : List (Nat × CE) := [(27, book_WholeBytes_ce K), (15, book_SpoilBytes_ce K)]
theorem law06_kept_Eok (K : Nat) : Env.Ok prog (tab (law06_kept_E K)) := (Env.cons (book_WholeBytes_ok K) (Env.cons (book_SpoilBytes_ok K) (Env.nil _)))
noncomputable def law06_kept_R (K : Nat) : List (Nat × RE) := []
theorem law06_kept_Rok (K : Nat) : REnv.Ok prog (tab (law06_kept_R K)) := (REnv.nil _)
noncomputable def law06_kept_l0_b (K : Nat) (rec : Sl → Sl → Int → World → Option ((Out (Unit) (Bool × Unit)) × World)) (l0 : Sl) (parts1 : Sl) (i5 : Int) (w : World) : Option ((Out (Unit) (Bool × Unit)) × World) :=
  if (decide (i5 < ((l0.len : Nat) : Int))) = true then ((l0.a).bind fun p_1 =>
  if (0 : Int) ≤ i5 ∧ i5 < ((l0.len : Nat) : Int) then ((parts1.a).bind fun p_2 =>
  if (0 : Int) ≤ i5 ∧ i5 < ((parts1.len : Nat) : Int) then ((ldS (p_1.add ((Int.toNat i5) * 1)) w.drew).bind fun v_3 =>
  (ldS (p_2.add ((Int.toNat i5) * 1)) w.drew).bind fun v_4 =>
  bnd (book_WholeBytes K v_3 v_4 w.drew) fun r_5 w_6 =>
  if (!r_5.1) = true then (some (.ret (false, ()), w_6)) else ((l0.a).bind fun p_7 =>
  if (0 : Int) ≤ i5 ∧ i5 < ((l0.len : Nat) : Int) then ((ldS (p_7.add ((Int.toNat i5) * 1)) w_6).bind fun v_8 =>
  bnd (book_SpoilBytes K v_8 w_6) fun r_9 w_10 =>
  rec l0 parts1 (IntKind.i64.wrap (i5 + 1)) w_10) else none)) else none) else none) else (some (.norm (), w))
noncomputable def law06_kept_l0 (K : Nat) (n : Nat) : Sl → Sl → Int → World → Option ((Out (Unit) (Bool × Unit)) × World) := iter (fun _ _ _ _ => none) (law06_kept_l0_b K) n
/-- coffer/cofferlaw06.kept -/
noncomputable def law06_kept (K : Nat) (l0 : Sl) (parts1 : Sl) (w : World) : Option ((Bool × Unit) × World) :=
  bnd (law06_kept_l0 K K l0 parts1 0 w) fun y_11 w_12 =>
  (match y_11 with
  | .norm z_13n => (some (((((l0.len : Nat) : Int) == ((parts1.len : Nat) : Int)), ()), w_12))
  | .ret z_13r => (some ((z_13r.1, ()), w_12)))
theorem law06_kept_l0_ok (K : Nat) (n : Nat) : StmtOk prog [(0, .sl), (1, .sl), (5, .int .i64)] [] [(4, .bool)] [(4, 27)] ((fun n x w => law06_kept_l0 K n x.1 x.2.1 x.2.2.1 w) n) (.block 0 (.loop (cd (bodyOf f31) [1, 0, 1, 0, 0]))) :=
    mk_loop (O := tabL []) (root := (bodyOf f31)) (π := [1, 0, 1, 0, 0]) (id := 0) (Li := [(0, .sl), (1, .sl), (5, .int .i64)]) (Lo := []) (Lr := [(4, .bool)]) (S := (fun n x w => law06_kept_l0 K n x.1 x.2.1 x.2.2.1 w)) (body := cd (bodyOf f31) [1, 0, 1, 0, 0]) (law06_kept_Eok K) (law06_kept_Rok K) rfl (Orc.nil _ _ _) (by kernel_rfl) (fun _ _ => by kernel_rfl) (fun _ _ _ => by kernel_rfl) n
noncomputable def law06_kept_l0_se (K : Nat) : SE := stmt [(0, .sl), (1, .sl), (5, .int .i64)] [] [(4, .bool)] [(4, 27)] (fun x w => law06_kept_l0 K K x.1 x.2.1 x.2.2.1 w)
theorem law06_kept_l0_se_ok (K : Nat) (R : Rg) (h : subRB [(4, 27)] R = true) : (law06_kept_l0_se K).Ok prog R (.block 0 (.loop (cd (bodyOf f31) [1, 0, 1, 0, 0]))) := stmt_ok (Li := [(0, .sl), (1, .sl), (5, .int .i64)]) (Lo := []) (Lr := [(4, .bool)]) (S := (fun x w => law06_kept_l0 K K x.1 x.2.1 x.2.2.1 w)) (law06_kept_l0_ok K K) (subR_of h)
theorem law06_kept_facts : FunFacts prog 31 f31 (bodyOf f31) [(0, .sl), (1, .sl)] [(0, 32)] := ⟨func31, by kernel_rfl, by kernel_rfl, by kernel_rfl, by kernel_rfl, by kernel_rfl⟩
theorem law06_kept_calls (K : Nat) (x : TT [(0, .sl), (1, .sl)]) (w : World) (y : TR [.bool]) (w2 : World) (h : law06_kept K x.1 x.2.1 w = some (y, w2)) : Calls prog 31 (encA [(0, .sl), (1, .sl)] x).toArray w (fun e w3 => e = .returned (resV (encR [.bool] y)) ∧ w3 = w2) :=
    mk_fun (O := tabL [([1, 0, 1], law06_kept_l0_se K)]) (Lp := [(0, .sl), (1, .sl)]) (Rt := [.bool]) (S := (fun x w => law06_kept K x.1 x.2.1 w)) (law06_kept_Eok K) (law06_kept_Rok K) rfl law06_kept_facts (Orc.cons (by kernel_rfl) (law06_kept_l0_se_ok K [(0, 32)] (by kernel_rfl)) (Orc.nil _ _ _)) (fun _ _ => by kernel_rfl) x w y w2 h
noncomputable def law06_kept_ce (K : Nat) : CE := funE [(0, .sl), (1, .sl)] [.bool] (fun x w => law06_kept K x.1 x.2.1 w)
theorem law06_kept_ok (K : Nat) : (law06_kept_ce K).Ok prog 31 := funE_ok (Rt := [.bool]) (S := (fun x w => law06_kept K x.1 x.2.1 w)) law06_kept_facts fun x w y w2 h => law06_kept_calls K x w y w2 h

noncomputable def ref06_Spring_Feed_E (K : Nat) : List (Nat × CE) := [(43, ref06_joined_ce K), (44, ref06_Spring_update_ce K)]
theorem ref06_Spring_Feed_Eok (K : Nat) : Env.Ok prog (tab (ref06_Spring_Feed_E K)) := (Env.cons (ref06_joined_ok K) (Env.cons (ref06_Spring_update_ok K) (Env.nil _)))
noncomputable def ref06_Spring_Feed_R (K : Nat) : List (Nat × RE) := []
theorem ref06_Spring_Feed_Rok (K : Nat) : REnv.Ok prog (tab (ref06_Spring_Feed_R K)) := (REnv.nil _)
noncomputable def ref06_Spring_Feed_s1 (K : Nat) (entropy1 : Sl) (w : World) : Option ((Bool × Unit) × World) :=
  if (decide (((entropy1.len : Nat) : Int) < 16)) = true then (some ((true, ()), w)) else (some (((decide (((entropy1.len : Nat) : Int) > 65536)), ()), w))
noncomputable def ref06_Spring_Feed_s0 (K : Nat) (s0 : Option Addr) (entropy1 : Sl) (x7 : Sl) (w : World) : Option ((Out (Unit) (Int × Unit)) × World) :=
  if s0.isNone = true then (some (.ret (1, ()), w)) else (bnd (ref06_Spring_Feed_s1 K entropy1 w) fun y_3 w_4 =>
  if y_3.1 = true then (some (.ret (60, ()), w_4)) else (if (decide (((x7.len : Nat) : Int) > 65536)) = true then (some (.ret (4, ()), w_4)) else (some (.norm (), w_4))))
/-- (*coffer/cofferref06.Spring).Feed -/
noncomputable def ref06_Spring_Feed (K : Nat) (s0 : Option Addr) (entropy1 : Sl) (extra2 : Sl) (w : World) : Option ((Int × Unit) × World) :=
  bnd (ref06_joined K extra2 w) fun r_1 w_2 =>
  bnd (ref06_Spring_Feed_s0 K s0 entropy1 r_1.1 w_2) fun y_5 w_6 =>
  (match y_5 with
  | .norm z_7n => (bnd (bldS prog 32 2 #[(0, (.slice entropy1.a entropy1.len entropy1.cap)), (1, (.slice r_1.1.a r_1.1.len r_1.1.cap))] w_6) fun s_8 w_9 =>
  bnd (ref06_joined K s_8 w_9) fun r_10 w_11 =>
  bnd (ref06_Spring_update K s0 r_10.1 w_11) fun r_12 w_13 =>
  (s0).bind fun p_14 =>
  (stC (p_14.add 2) (.int .i64 0) w_13).bind fun w_15 =>
  some ((0, ()), w_15))
  | .ret z_7r => (some ((z_7r.1, ()), w_6)))
theorem ref06_Spring_Feed_s1_ok (K : Nat) : StmtNOk prog [(1, .sl)] [(14, .bool)] [(14, 23)] (fun x w => ref06_Spring_Feed_s1 K x.1 w) (cd (bodyOf f32) [1, 1, 0, 0, 1, 1, 0]) :=
    mk_stmtN (O := tabL []) (root := (bodyOf f32)) (π := [1, 1, 0, 0, 1, 1, 0]) (Li := [(1, .sl)]) (Lo := [(14, .bool)]) (S := (fun x w => ref06_Spring_Feed_s1 K x.1 w)) (ref06_Spring_Feed_Eok K) (ref06_Spring_Feed_Rok K) rfl (Orc.nil _ _ _) (by kernel_rfl) (fun _ _ => by kernel_rfl)
noncomputable def ref06_Spring_Feed_s1_se (K : Nat) : SE := stmtN [(1, .sl)] [(14, .bool)] [(14, 23)] (fun x w => ref06_Spring_Feed_s1 K x.1 w)
theorem ref06_Spring_Feed_s1_se_ok (K : Nat) (R : Rg) (h : subRB [(14, 23)] R = true) : (ref06_Spring_Feed_s1_se K).Ok prog R (cd (bodyOf f32) [1, 1, 0, 0, 1, 1, 0]) := stmtN_ok (Li := [(1, .sl)]) (Lo := [(14, .bool)]) (S := (fun x w => ref06_Spring_Feed_s1 K x.1 w)) (ref06_Spring_Feed_s1_ok K) (subR_of h)
theorem ref06_Spring_Feed_s0_ok (K : Nat) : StmtOk prog [(0, .ptr), (1, .sl), (7, .sl)] [] [(6, .int .i64)] [(6, 7), (11, 27)] (fun x w => ref06_Spring_Feed_s0 K x.1 x.2.1 x.2.2.1 w) (cd (bodyOf f32) [1, 1, 0]) :=
    mk_stmt (O := tabL [([1, 1, 0, 0, 1, 1, 0], ref06_Spring_Feed_s1_se K)]) (root := (bodyOf f32)) (π := [1, 1, 0]) (Li := [(0, .ptr), (1, .sl), (7, .sl)]) (Lo := []) (Lr := [(6, .int .i64)]) (S := (fun x w => ref06_Spring_Feed_s0 K x.1 x.2.1 x.2.2.1 w)) (ref06_Spring_Feed_Eok K) (ref06_Spring_Feed_Rok K) rfl (Orc.cons (by kernel_rfl) (ref06_Spring_Feed_s1_se_ok K [(6, 7), (11, 27)] (by kernel_rfl)) (Orc.nil _ _ _)) (by kernel_rfl) (fun _ _ => by kernel_rfl)
noncomputable def ref06_Spring_Feed_s0_se (K : Nat) : SE := stmt [(0, .ptr), (1, .sl), (7, .sl)] [] [(6, .int .i64)] [(6, 7), (11, 27)] (fun x w => ref06_Spring_Feed_s0 K x.1 x.2.1 x.2.2.1 w)
theorem ref06_Spring_Feed_s0_se_ok (K : Nat) (R : Rg) (h : subRB [(6, 7), (11, 27)] R = true) : (ref06_Spring_Feed_s0_se K).Ok prog R (cd (bodyOf f32) [1, 1, 0]) := stmt_ok (Li := [(0, .ptr), (1, .sl), (7, .sl)]) (Lo := []) (Lr := [(6, .int .i64)]) (S := (fun x w => ref06_Spring_Feed_s0 K x.1 x.2.1 x.2.2.1 w)) (ref06_Spring_Feed_s0_ok K) (subR_of h)
theorem ref06_Spring_Feed_facts : FunFacts prog 32 f32 (bodyOf f32) [(0, .ptr), (1, .sl), (2, .sl)] [(0, 37)] := ⟨func32, by kernel_rfl, by kernel_rfl, by kernel_rfl, by kernel_rfl, by kernel_rfl⟩
theorem ref06_Spring_Feed_calls (K : Nat) (x : TT [(0, .ptr), (1, .sl), (2, .sl)]) (w : World) (y : TR [.int .i64]) (w2 : World) (h : ref06_Spring_Feed K x.1 x.2.1 x.2.2.1 w = some (y, w2)) : Calls prog 32 (encA [(0, .ptr), (1, .sl), (2, .sl)] x).toArray w (fun e w3 => e = .returned (resV (encR [.int .i64] y)) ∧ w3 = w2) :=
    mk_fun (O := tabL [([1, 1, 0], ref06_Spring_Feed_s0_se K), ([1, 1, 0, 0, 1, 1, 0], ref06_Spring_Feed_s1_se K)]) (Lp := [(0, .ptr), (1, .sl), (2, .sl)]) (Rt := [.int .i64]) (S := (fun x w => ref06_Spring_Feed K x.1 x.2.1 x.2.2.1 w)) (ref06_Spring_Feed_Eok K) (ref06_Spring_Feed_Rok K) rfl ref06_Spring_Feed_facts (Orc.cons (by kernel_rfl) (ref06_Spring_Feed_s0_se_ok K [(0, 37)] (by kernel_rfl)) (Orc.cons (by kernel_rfl) (ref06_Spring_Feed_s1_se_ok K [(0, 37)] (by kernel_rfl)) (Orc.nil _ _ _))) (fun _ _ => by kernel_rfl) x w y w2 h
noncomputable def ref06_Spring_Feed_ce (K : Nat) : CE := funE [(0, .ptr), (1, .sl), (2, .sl)] [.int .i64] (fun x w => ref06_Spring_Feed K x.1 x.2.1 x.2.2.1 w)
theorem ref06_Spring_Feed_ok (K : Nat) : (ref06_Spring_Feed_ce K).Ok prog 32 := funE_ok (Rt := [.int .i64]) (S := (fun x w => ref06_Spring_Feed K x.1 x.2.1 x.2.2.1 w)) ref06_Spring_Feed_facts fun x w y w2 h => ref06_Spring_Feed_calls K x w y w2 h

noncomputable def ref06_Spring_Left_E : List (Nat × CE) := []
theorem ref06_Spring_Left_Eok : Env.Ok prog (tab (ref06_Spring_Left_E)) := (Env.nil _)
noncomputable def ref06_Spring_Left_R : List (Nat × RE) := []
theorem ref06_Spring_Left_Rok : REnv.Ok prog (tab (ref06_Spring_Left_R)) := (REnv.nil _)
/-- (*coffer/cofferref06.Spring).Left -/
noncomputable def ref06_Spring_Left (s0 : Option Addr) (w : World) : Option ((Int × Unit) × World) :=
  if s0.isNone = true then (some ((0, ()), w)) else ((s0).bind fun p_1 =>
  (s0).bind fun p_2 =>
  (ldI .i64 (p_1.add 1) w.drew).bind fun v_3 =>
  (ldI .i64 (p_2.add 2) w.drew).bind fun v_4 =>
  some (((IntKind.i64.wrap (v_3 - v_4)), ()), w.drew))
theorem ref06_Spring_Left_facts : FunFacts prog 33 f33 (bodyOf f33) [(0, .ptr)] [(0, 14)] := ⟨func33, by kernel_rfl, by kernel_rfl, by kernel_rfl, by kernel_rfl, by kernel_rfl⟩
theorem ref06_Spring_Left_calls (x : TT [(0, .ptr)]) (w : World) (y : TR [.int .i64]) (w2 : World) (h : ref06_Spring_Left x.1 w = some (y, w2)) : Calls prog 33 (encA [(0, .ptr)] x).toArray w (fun e w3 => e = .returned (resV (encR [.int .i64] y)) ∧ w3 = w2) :=
    mk_fun (O := tabL []) (Lp := [(0, .ptr)]) (Rt := [.int .i64]) (S := (fun x w => ref06_Spring_Left x.1 w)) (ref06_Spring_Left_Eok) (ref06_Spring_Left_Rok) rfl ref06_Spring_Left_facts (Orc.nil _ _ _) (fun _ _ => by kernel_rfl) x w y w2 h
noncomputable def ref06_Spring_Left_ce : CE := funE [(0, .ptr)] [.int .i64] (fun x w => ref06_Spring_Left x.1 w)
theorem ref06_Spring_Left_ok : (ref06_Spring_Left_ce).Ok prog 33 := funE_ok (Rt := [.int .i64]) (S := (fun x w => ref06_Spring_Left x.1 w)) ref06_Spring_Left_facts fun x w y w2 h => ref06_Spring_Left_calls x w y w2 h

noncomputable def spring_Spring_Copy_E : List (Nat × CE) := []
theorem spring_Spring_Copy_Eok : Env.Ok prog (tab (spring_Spring_Copy_E)) := (Env.nil _)
noncomputable def spring_Spring_Copy_R : List (Nat × RE) := []
theorem spring_Spring_Copy_Rok : REnv.Ok prog (tab (spring_Spring_Copy_R)) := (REnv.nil _)
/-- (*coffer/spring.Spring).Copy -/
noncomputable def spring_Spring_Copy (s0 : Option Addr) (w : World) : Option (((Option Addr) × Unit) × World) :=
  if s0.isNone = true then (some ((none, ()), w)) else ((s0).bind fun p_1 =>
  (ldA 5 p_1 w).bind fun v_2 =>
  bnd (newB z56 56 w) fun c_3 w_4 =>
  if (v_2).size = 5 then ((stA c_3 v_2 w_4).bind fun w_5 =>
  some (((some c_3), ()), w_5)) else none)
theorem spring_Spring_Copy_facts : FunFacts prog 34 f34 (bodyOf f34) [(0, .ptr)] [(0, 9)] := ⟨func34, by kernel_rfl, by kernel_rfl, by kernel_rfl, by kernel_rfl, by kernel_rfl⟩
theorem spring_Spring_Copy_calls (x : TT [(0, .ptr)]) (w : World) (y : TR [.ptr]) (w2 : World) (h : spring_Spring_Copy x.1 w = some (y, w2)) : Calls prog 34 (encA [(0, .ptr)] x).toArray w (fun e w3 => e = .returned (resV (encR [.ptr] y)) ∧ w3 = w2) :=
    mk_fun (O := tabL []) (Lp := [(0, .ptr)]) (Rt := [.ptr]) (S := (fun x w => spring_Spring_Copy x.1 w)) (spring_Spring_Copy_Eok) (spring_Spring_Copy_Rok) rfl spring_Spring_Copy_facts (Orc.nil _ _ _) (fun _ _ => by kernel_rfl) x w y w2 h
noncomputable def spring_Spring_Copy_ce : CE := funE [(0, .ptr)] [.ptr] (fun x w => spring_Spring_Copy x.1 w)
theorem spring_Spring_Copy_ok : (spring_Spring_Copy_ce).Ok prog 34 := funE_ok (Rt := [.ptr]) (S := (fun x w => spring_Spring_Copy x.1 w)) spring_Spring_Copy_facts fun x w y w2 h => spring_Spring_Copy_calls x w y w2 h

noncomputable def ref06_Spring_Copy_E : List (Nat × CE) := []
theorem ref06_Spring_Copy_Eok : Env.Ok prog (tab (ref06_Spring_Copy_E)) := (Env.nil _)
noncomputable def ref06_Spring_Copy_R : List (Nat × RE) := []
theorem ref06_Spring_Copy_Rok : REnv.Ok prog (tab (ref06_Spring_Copy_R)) := (REnv.nil _)
/-- (*coffer/cofferref06.Spring).Copy -/
noncomputable def ref06_Spring_Copy (s0 : Option Addr) (w : World) : Option (((Option Addr) × Unit) × World) :=
  if s0.isNone = true then (some ((none, ()), w)) else ((s0).bind fun p_1 =>
  (s0).bind fun p_2 =>
  (s0).bind fun p_3 =>
  (ldI .i64 (p_1.add 0) w.drew).bind fun v_4 =>
  (ldI .i64 (p_2.add 1) w.drew).bind fun v_5 =>
  (ldI .i64 (p_3.add 2) w.drew).bind fun v_6 =>
  (prog.built 84 [(0, (.int .i64 v_4)), (1, (.int .i64 v_5)), (2, (.int .i64 v_6))]).bind fun cs_7 =>
  bnd (newB cs_7 84 w.drew) fun p_8 w_9 =>
  (s0).bind fun p_10 =>
  (ldS (p_8.add 3) w_9.drew).bind fun v_11 =>
  (ldS (p_10.add 3) w_9.drew).bind fun v_12 =>
  bnd (apd prog 22 22 (.slice v_11.a v_11.len v_11.cap) (.slice v_12.a v_12.len v_12.cap) w_9.drew) fun s_13 w_14 =>
  (stC (p_8.add 3) (.slice s_13.a s_13.len s_13.cap) w_14).bind fun w_15 =>
  (s0).bind fun p_16 =>
  (ldS (p_8.add 4) w_15.drew).bind fun v_17 =>
  (ldS (p_16.add 4) w_15.drew).bind fun v_18 =>
  bnd (apd prog 22 22 (.slice v_17.a v_17.len v_17.cap) (.slice v_18.a v_18.len v_18.cap) w_15.drew) fun s_19 w_20 =>
  (stC (p_8.add 4) (.slice s_19.a s_19.len s_19.cap) w_20).bind fun w_21 =>
  some (((some p_8), ()), w_21))
theorem ref06_Spring_Copy_facts : FunFacts prog 35 f35 (bodyOf f35) [(0, .ptr)] [(0, 45)] := ⟨func35, by kernel_rfl, by kernel_rfl, by kernel_rfl, by kernel_rfl, by kernel_rfl⟩
theorem ref06_Spring_Copy_calls (x : TT [(0, .ptr)]) (w : World) (y : TR [.ptr]) (w2 : World) (h : ref06_Spring_Copy x.1 w = some (y, w2)) : Calls prog 35 (encA [(0, .ptr)] x).toArray w (fun e w3 => e = .returned (resV (encR [.ptr] y)) ∧ w3 = w2) :=
    mk_fun (O := tabL []) (Lp := [(0, .ptr)]) (Rt := [.ptr]) (S := (fun x w => ref06_Spring_Copy x.1 w)) (ref06_Spring_Copy_Eok) (ref06_Spring_Copy_Rok) rfl ref06_Spring_Copy_facts (Orc.nil _ _ _) (fun _ _ => by kernel_rfl) x w y w2 h
noncomputable def ref06_Spring_Copy_ce : CE := funE [(0, .ptr)] [.ptr] (fun x w => ref06_Spring_Copy x.1 w)
theorem ref06_Spring_Copy_ok : (ref06_Spring_Copy_ce).Ok prog 35 := funE_ok (Rt := [.ptr]) (S := (fun x w => ref06_Spring_Copy x.1 w)) ref06_Spring_Copy_facts fun x w y w2 h => ref06_Spring_Copy_calls x w y w2 h

noncomputable def law06_two_plays_E (K : Nat) : List (Nat × CE) := [(29, law06_lent_ce K), (10, spring_Spring_Draw_ce K), (30, ref06_Spring_Draw_ce K), (11, book_SameBytes_ce K), (31, law06_kept_ce K), (25, book_Bytes_ce K), (8, spring_Spring_Feed_ce K), (32, ref06_Spring_Feed_ce K), (27, book_WholeBytes_ce K), (15, book_SpoilBytes_ce K), (24, spring_Spring_Left_ce), (33, ref06_Spring_Left_ce), (34, spring_Spring_Copy_ce), (35, ref06_Spring_Copy_ce)]
theorem law06_two_plays_Eok (K : Nat) : Env.Ok prog (tab (law06_two_plays_E K)) := (Env.cons (law06_lent_ok K) (Env.cons (spring_Spring_Draw_ok K) (Env.cons (ref06_Spring_Draw_ok K) (Env.cons (book_SameBytes_ok K) (Env.cons (law06_kept_ok K) (Env.cons (book_Bytes_ok K) (Env.cons (spring_Spring_Feed_ok K) (Env.cons (ref06_Spring_Feed_ok K) (Env.cons (book_WholeBytes_ok K) (Env.cons (book_SpoilBytes_ok K) (Env.cons (spring_Spring_Left_ok) (Env.cons (ref06_Spring_Left_ok) (Env.cons (spring_Spring_Copy_ok) (Env.cons (ref06_Spring_Copy_ok) (Env.nil _)))))))))))))))
noncomputable def law06_two_plays_R (K : Nat) : List (Nat × RE) := [(28, law06_long_re K), (7, law06_num_re)]
theorem law06_two_plays_Rok (K : Nat) : REnv.Ok prog (tab (law06_two_plays_R K)) := (REnv.cons (law06_long_ok K) (REnv.cons (law06_num_ok) (REnv.nil _)))
noncomputable def law06_two_plays_s0 (K : Nat) (i5 : Int) (a19 : Bool) (w : World) : Option ((Int × Unit) × World) :=
  if a19 = true then (some (((IntKind.i64.wrap (0 - i5)), ()), w)) else (some ((i5, ()), w))
noncomputable def law06_two_plays_s1 (K : Nat) (w0 : Option Addr) (n7 : Int) (w : World) : Option ((Bool × Unit) × World) :=
  (w0).bind fun p_13 =>
  (ldI .i64 (p_13.add 6) w).bind fun v_14 =>
  if (decide (n7 > v_14)) = true then (some (((decide (n7 ≤ 65536)), ()), w)) else (some ((false, ()), w))
noncomputable def law06_two_plays_s2 (K : Nat) (w0 : Option Addr) (n7 : Int) (a43 : Bool) (w : World) : Option ((Int × Unit) × World) :=
  if a43 = true then ((w0).bind fun p_17 =>
  (ldI .i64 (p_17.add 6) w).bind fun v_18 =>
  some ((v_18, ()), w)) else (some ((n7, ()), w))
noncomputable def law06_two_plays_s3 (K : Nat) (o3 : Addr) (l6 : Sl) (a8 : Sl) (e9 : Int) (b10 : Sl) (f11 : Int) (w : World) : Option ((Bool × Unit) × World) :=
  (law06_num e9).bind fun r_30 =>
  if (r_30.1 != f11) = true then (some ((true, ()), w)) else (bnd (book_SameBytes K a8 b10 w) fun r_31 w_32 =>
  if (!r_31.1) = true then (some ((true, ()), w_32)) else ((ldS (o3.add 4) w_32).bind fun v_33 =>
  bnd (law06_kept K l6 v_33 w_32) fun r_34 w_35 =>
  some (((!r_34.1), ()), w_35)))
/-- (*coffer/cofferlaw06.two).plays -/
noncomputable def law06_two_plays (K : Nat) (w0 : Option Addr) (o1 : Array Value) (w : World) : Option ((Bool × Unit) × World) :=
  bnd (newB o1 34 w) fun p_1 w_2 =>
  (ldI .i64 (p_1.add 1) w_2).bind fun v_3 =>
  bnd (law06_two_plays_s0 K (Int.tmod v_3 2) (decide ((Int.tmod v_3 2) < 0)) w_2) fun y_4 w_5 =>
  (ldS (p_1.add 4) w_5).bind fun v_6 =>
  (law06_long K v_6 w_5).bind fun r_7 =>
  if r_7.1 = true then (some ((true, ()), w_5)) else ((ldS (p_1.add 4) w_5).bind fun v_8 =>
  bnd (law06_lent K v_8 w_5) fun r_9 w_10 =>
  (ldI .i64 (p_1.add 0) w_10).bind fun v_11 =>
  if (v_11 == 1) = true then ((ldI .i64 (p_1.add 2) w_10).bind fun v_12 =>
  bnd (law06_two_plays_s1 K w0 v_12 w_10) fun y_15 w_16 =>
  bnd (law06_two_plays_s2 K w0 v_12 y_15.1 w_16) fun y_19 w_20 =>
  (w0).bind fun p_21 =>
  if (0 : Int) ≤ y_4.1 ∧ y_4.1 < ((2 : Nat) : Int) then ((ldP ((p_21.add 0).add ((Int.toNat y_4.1) * 1)) w_20).bind fun v_22 =>
  bnd (spring_Spring_Draw K v_22 y_19.1 r_9.1 w_20) fun r_23 w_24 =>
  (w0).bind fun p_25 =>
  if (0 : Int) ≤ y_4.1 ∧ y_4.1 < ((2 : Nat) : Int) then ((ldP ((p_25.add 2).add ((Int.toNat y_4.1) * 1)) w_24.drew).bind fun v_26 =>
  (ldS (p_1.add 4) w_24.drew).bind fun v_27 =>
  bnd (ref06_Spring_Draw K v_26 y_19.1 v_27 w_24.drew) fun r_28 w_29 =>
  bnd (law06_two_plays_s3 K p_1 r_9.1 r_23.1 r_23.2.1 r_28.1 r_28.2.1 w_29) fun y_36 w_37 =>
  if y_36.1 = true then (some ((false, ()), w_37)) else ((w0).bind fun p_38 =>
  (ldI .i64 (p_38.add 6) w_37).bind fun v_39 =>
  (w0).bind fun p_40 =>
  (stC (p_40.add 6) (.int .i64 (IntKind.i64.wrap (v_39 - ((r_28.1.len : Nat) : Int)))) w_37).bind fun w_41 =>
  (w0).bind fun p_42 =>
  (ldS (p_42.add 4) w_41).bind fun v_43 =>
  bnd (bldS prog 32 1 #[(0, (.slice r_23.1.a r_23.1.len r_23.1.cap))] w_41) fun s_44 w_45 =>
  bnd (apd prog 32 32 (.slice v_43.a v_43.len v_43.cap) (.slice s_44.a s_44.len s_44.cap) w_45) fun s_46 w_47 =>
  (w0).bind fun p_48 =>
  (stC (p_48.add 4) (.slice s_46.a s_46.len s_46.cap) w_47).bind fun w_49 =>
  (w0).bind fun p_50 =>
  (ldS (p_50.add 5) w_49).bind fun v_51 =>
  bnd (bldS prog 32 1 #[(0, (.slice r_28.1.a r_28.1.len r_28.1.cap))] w_49) fun s_52 w_53 =>
  bnd (apd prog 32 32 (.slice v_51.a v_51.len v_51.cap) (.slice s_52.a s_52.len s_52.cap) w_53) fun s_54 w_55 =>
  (w0).bind fun p_56 =>
  (stC (p_56.add 5) (.slice s_54.a s_54.len s_54.cap) w_55).bind fun w_57 =>
  some ((true, ()), w_57))) else none) else none) else (if (v_11 == 2) = true then ((ldS (p_1.add 3) w_10).bind fun v_58 =>
  bnd (book_Bytes K v_58 w_10) fun r_59 w_60 =>
  (w0).bind fun p_61 =>
  if (0 : Int) ≤ y_4.1 ∧ y_4.1 < ((2 : Nat) : Int) then ((ldP ((p_61.add 0).add ((Int.toNat y_4.1) * 1)) w_60).bind fun v_62 =>
  bnd (spring_Spring_Feed K v_62 r_59.1 r_9.1 w_60) fun r_63 w_64 =>
  (law06_num r_63.1).bind fun r_65 =>
  (w0).bind fun p_66 =>
  if (0 : Int) ≤ y_4.1 ∧ y_4.1 < ((2 : Nat) : Int) then ((ldP ((p_66.add 2).add ((Int.toNat y_4.1) * 1)) w_64.drew).bind fun v_67 =>
  (ldS (p_1.add 3) w_64.drew).bind fun v_68 =>
  (ldS (p_1.add 4) w_64.drew).bind fun v_69 =>
  bnd (ref06_Spring_Feed K v_67 v_68 v_69 w_64.drew) fun r_70 w_71 =>
  if (r_65.1 != r_70.1) = true then (some ((false, ()), w_71)) else ((ldS (p_1.add 3) w_71).bind fun v_72 =>
  bnd (book_WholeBytes K r_59.1 v_72 w_71) fun r_73 w_74 =>
  if (!r_73.1) = true then (some ((false, ()), w_74)) else ((ldS (p_1.add 4) w_74).bind fun v_75 =>
  bnd (law06_kept K r_9.1 v_75 w_74) fun r_76 w_77 =>
  if (!r_76.1) = true then (some ((false, ()), w_77)) else (bnd (book_SpoilBytes K r_59.1 w_77) fun r_78 w_79 =>
  some ((true, ()), w_79))))) else none) else none) else (if (v_11 == 3) = true then ((w0).bind fun p_80 =>
  if (0 : Int) ≤ y_4.1 ∧ y_4.1 < ((2 : Nat) : Int) then ((w0).bind fun p_81 =>
  if (0 : Int) ≤ y_4.1 ∧ y_4.1 < ((2 : Nat) : Int) then ((ldP ((p_80.add 0).add ((Int.toNat y_4.1) * 1)) w_10.drew).bind fun v_82 =>
  (ldP ((p_81.add 2).add ((Int.toNat y_4.1) * 1)) w_10.drew).bind fun v_83 =>
  bnd (spring_Spring_Left v_82 w_10.drew) fun r_84 w_85 =>
  (ldP ((p_81.add 2).add ((Int.toNat y_4.1) * 1)) w_85).bind fun v_86 =>
  sameK (.pointer v_83) (.pointer v_86) (bnd (ref06_Spring_Left v_83 w_85) fun r_87 w_88 =>
  some (((r_84.1 == r_87.1), ()), w_88))) else none) else none) else (if (v_11 == 4) = true then ((w0).bind fun p_89 =>
  if (0 : Int) ≤ (IntKind.i64.wrap (1 - y_4.1)) ∧ (IntKind.i64.wrap (1 - y_4.1)) < ((2 : Nat) : Int) then ((w0).bind fun p_90 =>
  (ldP ((p_89.add 0).add ((Int.toNat (IntKind.i64.wrap (1 - y_4.1))) * 1)) w_10.drew).bind fun v_91 =>
  bnd (spring_Spring_Copy v_91 w_10.drew) fun r_92 w_93 =>
  if (0 : Int) ≤ y_4.1 ∧ y_4.1 < ((2 : Nat) : Int) then ((stC ((p_90.add 0).add ((Int.toNat y_4.1) * 1)) (.pointer r_92.1) w_93).bind fun w_94 =>
  (w0).bind fun p_95 =>
  if (0 : Int) ≤ (IntKind.i64.wrap (1 - y_4.1)) ∧ (IntKind.i64.wrap (1 - y_4.1)) < ((2 : Nat) : Int) then ((w0).bind fun p_96 =>
  (ldP ((p_95.add 2).add ((Int.toNat (IntKind.i64.wrap (1 - y_4.1))) * 1)) w_94.drew).bind fun v_97 =>
  bnd (ref06_Spring_Copy v_97 w_94.drew) fun r_98 w_99 =>
  if (0 : Int) ≤ y_4.1 ∧ y_4.1 < ((2 : Nat) : Int) then ((stC ((p_96.add 2).add ((Int.toNat y_4.1) * 1)) (.pointer r_98.1) w_99).bind fun w_100 =>
  (w0).bind fun p_101 =>
  if (0 : Int) ≤ y_4.1 ∧ y_4.1 < ((2 : Nat) : Int) then ((w0).bind fun p_102 =>
  if (0 : Int) ≤ y_4.1 ∧ y_4.1 < ((2 : Nat) : Int) then ((ldP ((p_101.add 0).add ((Int.toNat y_4.1) * 1)) w_100.drew).bind fun v_103 =>
  (ldP ((p_102.add 2).add ((Int.toNat y_4.1) * 1)) w_100.drew).bind fun v_104 =>
  some (((v_103.isNone == v_104.isNone), ()), w_100.drew)) else none) else none) else none) else none) else none) else none) else (some ((true, ()), w_10))))))
theorem law06_two_plays_s0_ok (K : Nat) : StmtNOk prog [(5, .int .i64), (19, .bool)] [(5, .int .i64)] [(5, 6), (20, 22)] (fun x w => law06_two_plays_s0 K x.1 x.2.1 w) (cd (bodyOf f14) [1, 1, 0, 1]) :=
    mk_stmtN (O := tabL []) (root := (bodyOf f14)) (π := [1, 1, 0, 1]) (Li := [(5, .int .i64), (19, .bool)]) (Lo := [(5, .int .i64)]) (S := (fun x w => law06_two_plays_s0 K x.1 x.2.1 w)) (law06_two_plays_Eok K) (law06_two_plays_Rok K) rfl (Orc.nil _ _ _) (by kernel_rfl) (fun _ _ => by kernel_rfl)
noncomputable def law06_two_plays_s0_se (K : Nat) : SE := stmtN [(5, .int .i64), (19, .bool)] [(5, .int .i64)] [(5, 6), (20, 22)] (fun x w => law06_two_plays_s0 K x.1 x.2.1 w)
theorem law06_two_plays_s0_se_ok (K : Nat) (R : Rg) (h : subRB [(5, 6), (20, 22)] R = true) : (law06_two_plays_s0_se K).Ok prog R (cd (bodyOf f14) [1, 1, 0, 1]) := stmtN_ok (Li := [(5, .int .i64), (19, .bool)]) (Lo := [(5, .int .i64)]) (S := (fun x w => law06_two_plays_s0 K x.1 x.2.1 w)) (law06_two_plays_s0_ok K) (subR_of h)
theorem law06_two_plays_s1_ok (K : Nat) : StmtNOk prog [(0, .ptr), (7, .int .i64)] [(43, .bool)] [(34, 44)] (fun x w => law06_two_plays_s1 K x.1 x.2.1 w) (cd (bodyOf f14) [1, 1, 1, 1, 1, 0, 1, 0, 1, 0, 1, 0, 0]) :=
    mk_stmtN (O := tabL []) (root := (bodyOf f14)) (π := [1, 1, 1, 1, 1, 0, 1, 0, 1, 0, 1, 0, 0]) (Li := [(0, .ptr), (7, .int .i64)]) (Lo := [(43, .bool)]) (S := (fun x w => law06_two_plays_s1 K x.1 x.2.1 w)) (law06_two_plays_Eok K) (law06_two_plays_Rok K) rfl (Orc.nil _ _ _) (by kernel_rfl) (fun _ _ => by kernel_rfl)
noncomputable def law06_two_plays_s1_se (K : Nat) : SE := stmtN [(0, .ptr), (7, .int .i64)] [(43, .bool)] [(34, 44)] (fun x w => law06_two_plays_s1 K x.1 x.2.1 w)
theorem law06_two_plays_s1_se_ok (K : Nat) (R : Rg) (h : subRB [(34, 44)] R = true) : (law06_two_plays_s1_se K).Ok prog R (cd (bodyOf f14) [1, 1, 1, 1, 1, 0, 1, 0, 1, 0, 1, 0, 0]) := stmtN_ok (Li := [(0, .ptr), (7, .int .i64)]) (Lo := [(43, .bool)]) (S := (fun x w => law06_two_plays_s1 K x.1 x.2.1 w)) (law06_two_plays_s1_ok K) (subR_of h)
theorem law06_two_plays_s2_ok (K : Nat) : StmtNOk prog [(0, .ptr), (7, .int .i64), (43, .bool)] [(7, .int .i64)] [(7, 8), (44, 48)] (fun x w => law06_two_plays_s2 K x.1 x.2.1 x.2.2.1 w) (cd (bodyOf f14) [1, 1, 1, 1, 1, 0, 1, 0, 1, 0, 1, 0, 1]) :=
    mk_stmtN (O := tabL []) (root := (bodyOf f14)) (π := [1, 1, 1, 1, 1, 0, 1, 0, 1, 0, 1, 0, 1]) (Li := [(0, .ptr), (7, .int .i64), (43, .bool)]) (Lo := [(7, .int .i64)]) (S := (fun x w => law06_two_plays_s2 K x.1 x.2.1 x.2.2.1 w)) (law06_two_plays_Eok K) (law06_two_plays_Rok K) rfl (Orc.nil _ _ _) (by kernel_rfl) (fun _ _ => by kernel_rfl)
noncomputable def law06_two_plays_s2_se (K : Nat) : SE := stmtN [(0, .ptr), (7, .int .i64), (43, .bool)] [(7, .int .i64)] [(7, 8), (44, 48)] (fun x w => law06_two_plays_s2 K x.1 x.2.1 x.2.2.1 w)
theorem law06_two_plays_s2_se_ok (K : Nat) (R : Rg) (h : subRB [(7, 8), (44, 48)] R = true) : (law06_two_plays_s2_se K).Ok prog R (cd (bodyOf f14) [1, 1, 1, 1, 1, 0, 1, 0, 1, 0, 1, 0, 1]) := stmtN_ok (Li := [(0, .ptr), (7, .int .i64), (43, .bool)]) (Lo := [(7, .int .i64)]) (S := (fun x w => law06_two_plays_s2 K x.1 x.2.1 x.2.2.1 w)) (law06_two_plays_s2_ok K) (subR_of h)
theorem law06_two_plays_s3_ok (K : Nat) : StmtNOk prog [(3, .addr), (6, .sl), (8, .sl), (9, .int .i64), (10, .sl), (11, .int .i64)] [(89, .bool)] [(73, 90)] (fun x w => law06_two_plays_s3 K x.1 x.2.1 x.2.2.1 x.2.2.2.1 x.2.2.2.2.1 x.2.2.2.2.2.1 w) (cd (bodyOf f14) [1, 1, 1, 1, 1, 0, 1, 0, 1, 0, 1, 1, 1, 1, 0, 0]) :=
    mk_stmtN (O := tabL []) (root := (bodyOf f14)) (π := [1, 1, 1, 1, 1, 0, 1, 0, 1, 0, 1, 1, 1, 1, 0, 0]) (Li := [(3, .addr), (6, .sl), (8, .sl), (9, .int .i64), (10, .sl), (11, .int .i64)]) (Lo := [(89, .bool)]) (S := (fun x w => law06_two_plays_s3 K x.1 x.2.1 x.2.2.1 x.2.2.2.1 x.2.2.2.2.1 x.2.2.2.2.2.1 w)) (law06_two_plays_Eok K) (law06_two_plays_Rok K) rfl (Orc.nil _ _ _) (by kernel_rfl) (fun _ _ => by kernel_rfl)
noncomputable def law06_two_plays_s3_se (K : Nat) : SE := stmtN [(3, .addr), (6, .sl), (8, .sl), (9, .int .i64), (10, .sl), (11, .int .i64)] [(89, .bool)] [(73, 90)] (fun x w => law06_two_plays_s3 K x.1 x.2.1 x.2.2.1 x.2.2.2.1 x.2.2.2.2.1 x.2.2.2.2.2.1 w)
theorem law06_two_plays_s3_se_ok (K : Nat) (R : Rg) (h : subRB [(73, 90)] R = true) : (law06_two_plays_s3_se K).Ok prog R (cd (bodyOf f14) [1, 1, 1, 1, 1, 0, 1, 0, 1, 0, 1, 1, 1, 1, 0, 0]) := stmtN_ok (Li := [(3, .addr), (6, .sl), (8, .sl), (9, .int .i64), (10, .sl), (11, .int .i64)]) (Lo := [(89, .bool)]) (S := (fun x w => law06_two_plays_s3 K x.1 x.2.1 x.2.2.1 x.2.2.2.1 x.2.2.2.2.1 x.2.2.2.2.2.1 w)) (law06_two_plays_s3_ok K) (subR_of h)
theorem law06_two_plays_facts : FunFacts prog 14 f14 (bodyOf f14) [(0, .ptr), (1, .agg)] [(0, 225)] := ⟨func14, by kernel_rfl, by kernel_rfl, by kernel_rfl, by kernel_rfl, by kernel_rfl⟩
theorem law06_two_plays_calls (K : Nat) (x : TT [(0, .ptr), (1, .agg)]) (w : World) (y : TR [.bool]) (w2 : World) (h : law06_two_plays K x.1 x.2.1 w = some (y, w2)) : Calls prog 14 (encA [(0, .ptr), (1, .agg)] x).toArray w (fun e w3 => e = .returned (resV (encR [.bool] y)) ∧ w3 = w2) :=
    mk_fun (O := tabL [([1, 1, 0, 1], law06_two_plays_s0_se K), ([1, 1, 1, 1, 1, 0, 1, 0, 1, 0, 1, 0, 0], law06_two_plays_s1_se K), ([1, 1, 1, 1, 1, 0, 1, 0, 1, 0, 1, 0, 1], law06_two_plays_s2_se K), ([1, 1, 1, 1, 1, 0, 1, 0, 1, 0, 1, 1, 1, 1, 0, 0], law06_two_plays_s3_se K)]) (Lp := [(0, .ptr), (1, .agg)]) (Rt := [.bool]) (S := (fun x w => law06_two_plays K x.1 x.2.1 w)) (law06_two_plays_Eok K) (law06_two_plays_Rok K) rfl law06_two_plays_facts (Orc.cons (by kernel_rfl) (law06_two_plays_s0_se_ok K [(0, 225)] (by kernel_rfl)) (Orc.cons (by kernel_rfl) (law06_two_plays_s1_se_ok K [(0, 225)] (by kernel_rfl)) (Orc.cons (by kernel_rfl) (law06_two_plays_s2_se_ok K [(0, 225)] (by kernel_rfl)) (Orc.cons (by kernel_rfl) (law06_two_plays_s3_se_ok K [(0, 225)] (by kernel_rfl)) (Orc.nil _ _ _))))) (fun _ _ => by kernel_rfl) x w y w2 h
noncomputable def law06_two_plays_ce (K : Nat) : CE := funE [(0, .ptr), (1, .agg)] [.bool] (fun x w => law06_two_plays K x.1 x.2.1 w)
theorem law06_two_plays_ok (K : Nat) : (law06_two_plays_ce K).Ok prog 14 := funE_ok (Rt := [.bool]) (S := (fun x w => law06_two_plays K x.1 x.2.1 w)) law06_two_plays_facts fun x w y w2 h => law06_two_plays_calls K x w y w2 h

noncomputable def law06_SpringPlays_E (K : Nat) : List (Nat × CE) := [(12, law06_first_ce K), (13, law06_begun_ce K), (14, law06_two_plays_ce K), (11, book_SameBytes_ce K), (15, book_SpoilBytes_ce K)]
theorem law06_SpringPlays_Eok (K : Nat) : Env.Ok prog (tab (law06_SpringPlays_E K)) := (Env.cons (law06_first_ok K) (Env.cons (law06_begun_ok K) (Env.cons (law06_two_plays_ok K) (Env.cons (book_SameBytes_ok K) (Env.cons (book_SpoilBytes_ok K) (Env.nil _))))))
noncomputable def law06_SpringPlays_R (K : Nat) : List (Nat × RE) := [(9, law06_bytes_re K)]
theorem law06_SpringPlays_Rok (K : Nat) : REnv.Ok prog (tab (law06_SpringPlays_R K)) := (REnv.cons (law06_bytes_ok K) (REnv.nil _))
noncomputable def law06_SpringPlays_s1 (K : Nat) (script1 : Sl) (i10 : Int) (w : World) : Option ((Bool × Unit) × World) :=
  if (decide (i10 < ((script1.len : Nat) : Int))) = true then (some (((decide (i10 < 30)), ()), w)) else (some ((false, ()), w))
noncomputable def law06_SpringPlays_l0_b (K : Nat) (rec : Sl → Addr → Int → Int → World → Option ((Out (Unit) (Bool × Unit)) × World)) (script1 : Sl) (w5 : Addr) (fed9 : Int) (i10 : Int) (w : World) : Option ((Out (Unit) (Bool × Unit)) × World) :=
  bnd (law06_SpringPlays_s1 K script1 i10 w) fun y_22 w_23 =>
  if y_22.1 = true then ((script1.a).bind fun p_24 =>
  if (0 : Int) ≤ i10 ∧ i10 < ((script1.len : Nat) : Int) then ((script1.a).bind fun p_25 =>
  if (0 : Int) ≤ i10 ∧ i10 < ((script1.len : Nat) : Int) then ((ldS ((p_24.add ((Int.toNat i10) * 5)).add 4) w_23.drew).bind fun v_26 =>
  (law06_bytes K v_26 w_23.drew).bind fun r_27 =>
  (ldS ((p_25.add ((Int.toNat i10) * 5)).add 3) w_23.drew).bind fun v_28 =>
  if (decide ((IntKind.i64.wrap (r_27.1 + ((v_28.len : Nat) : Int))) > fed9)) = true then (rec script1 w5 fed9 (IntKind.i64.wrap (i10 + 1)) w_23.drew) else ((script1.a).bind fun p_29 =>
  if (0 : Int) ≤ i10 ∧ i10 < ((script1.len : Nat) : Int) then ((ldA 5 (p_29.add ((Int.toNat i10) * 5)) w_23.drew).bind fun v_30 =>
  bnd (law06_two_plays K (some w5) v_30 w_23.drew) fun r_31 w_32 =>
  if (!r_31.1) = true then (some (.ret (false, ()), w_32)) else (rec script1 w5 (IntKind.i64.wrap (fed9 - (IntKind.i64.wrap (r_27.1 + ((v_28.len : Nat) : Int))))) (IntKind.i64.wrap (i10 + 1)) w_32)) else none)) else none) else none) else (some (.norm (), w_23))
noncomputable def law06_SpringPlays_l0 (K : Nat) (n : Nat) : Sl → Addr → Int → Int → World → Option ((Out (Unit) (Bool × Unit)) × World) := iter (fun _ _ _ _ _ => none) (law06_SpringPlays_l0_b K) n
noncomputable def law06_SpringPlays_s2 (K : Nat) (w5 : Addr) (w : World) : Option ((Bool × Unit) × World) :=
  (prog.built 34 [(0, (.int .i64 3))]).bind fun cs_36 =>
  bnd (law06_two_plays K (some w5) cs_36 w) fun r_37 w_38 =>
  if (!r_37.1) = true then (some ((true, ()), w_38)) else ((prog.built 34 [(0, (.int .i64 3)), (1, (.int .i64 1))]).bind fun cs_39 =>
  bnd (law06_two_plays K (some w5) cs_39 w_38) fun r_40 w_41 =>
  some (((!r_40.1), ()), w_41))
noncomputable def law06_SpringPlays_l3_b (K : Nat) (rec : Addr → Int → World → Option ((Out (Unit) (Bool × Unit)) × World)) (w5 : Addr) (i12 : Int) (w : World) : Option ((Out (Unit) (Bool × Unit)) × World) :=
  (ldS (w5.add 4) w).bind fun v_44 =>
  if (decide (i12 < ((v_44.len : Nat) : Int))) = true then ((ldS (w5.add 4) w.drew).bind fun v_45 =>
  (v_45.a).bind fun p_46 =>
  if (0 : Int) ≤ i12 ∧ i12 < ((v_45.len : Nat) : Int) then ((ldS (p_46.add ((Int.toNat i12) * 1)) w.drew).bind fun v_47 =>
  (ldS (w5.add 5) w.drew).bind fun v_48 =>
  (v_48.a).bind fun p_49 =>
  if (0 : Int) ≤ i12 ∧ i12 < ((v_48.len : Nat) : Int) then ((ldS (p_49.add ((Int.toNat i12) * 1)) w.drew).bind fun v_50 =>
  bnd (book_SameBytes K v_47 v_50 w.drew) fun r_51 w_52 =>
  if (!r_51.1) = true then (some (.ret (false, ()), w_52)) else ((ldS (w5.add 4) w_52).bind fun v_53 =>
  (v_53.a).bind fun p_54 =>
  if (0 : Int) ≤ i12 ∧ i12 < ((v_53.len : Nat) : Int) then ((ldS (p_54.add ((Int.toNat i12) * 1)) w_52).bind fun v_55 =>
  bnd (book_SpoilBytes K v_55 w_52) fun r_56 w_57 =>
  rec w5 (IntKind.i64.wrap (i12 + 1)) w_57) else none)) else none) else none) else (some (.norm (), w))
noncomputable def law06_SpringPlays_l3 (K : Nat) (n : Nat) : Addr → Int → World → Option ((Out (Unit) (Bool × Unit)) × World) := iter (fun _ _ _ => none) (law06_SpringPlays_l3_b K) n
/-- coffer/cofferlaw06.SpringPlays -/
noncomputable def law06_SpringPlays {β : Type} (K : Nat) (c0 : Array Value) (script1 : Sl) (w : World) (k : (Bool × Unit) → World → Option β) : Option β :=
  bnd (newB c0 24 w) fun p_1 w_2 =>
  (ldS (p_1.add 2) w_2).bind fun v_3 =>
  (ldS (p_1.add 3) w_2).bind fun v_4 =>
  (ldS (p_1.add 4) w_2).bind fun v_5 =>
  if (decide ((IntKind.i64.wrap ((IntKind.i64.wrap (((v_3.len : Nat) : Int) + ((v_4.len : Nat) : Int))) + ((v_5.len : Nat) : Int))) > 262144)) = true then ((ldS (p_1.add 2) w_2).bind fun v_6 =>
  (ldS (p_1.add 3) w_2).bind fun v_7 =>
  (ldS (p_1.add 4) w_2).bind fun v_8 =>
  k ((decide ((IntKind.i64.wrap ((IntKind.i64.wrap (((v_6.len : Nat) : Int) + ((v_7.len : Nat) : Int))) + ((v_8.len : Nat) : Int))) > 262144)), ()) w_2) else (law06_first K  w_2 fun r_9 w_10 =>
  if (!r_9.1) = true then ((ldS (p_1.add 2) w_10).bind fun v_11 =>
  (ldS (p_1.add 3) w_10).bind fun v_12 =>
  (ldS (p_1.add 4) w_10).bind fun v_13 =>
  k ((decide ((IntKind.i64.wrap ((IntKind.i64.wrap (((v_11.len : Nat) : Int) + ((v_12.len : Nat) : Int))) + ((v_13.len : Nat) : Int))) > 262144)), ()) w_10) else ((prog.built 47 [(4, (.int .i64 8192))]).bind fun cs_14 =>
  bnd (newB cs_14 47 w_10) fun p_15 w_16 =>
  (ldA 5 p_1 w_16).bind fun v_17 =>
  law06_begun K v_17 w_16 fun r_18 w_19 =>
  if (!r_18.2.2.1) = true then (k (false, ()) w_19) else ((stC ((p_15.add 0).add (0 * 1)) (.pointer r_18.1) w_19).bind fun w_20 =>
  (stC ((p_15.add 2).add (0 * 1)) (.pointer r_18.2.1) w_20).bind fun w_21 =>
  bnd (law06_SpringPlays_l0 K K script1 p_15 262144 0 w_21) fun y_33 w_34 =>
  (match y_33 with
  | .norm z_35n => (bnd (law06_SpringPlays_s2 K p_15 w_34) fun y_42 w_43 =>
  if y_42.1 = true then (k (false, ()) w_43) else (bnd (law06_SpringPlays_l3 K K p_15 0 w_43) fun y_58 w_59 =>
  (match y_58 with
  | .norm z_60n => ((prog.built 34 [(0, (.int .i64 1)), (2, (.int .i64 3))]).bind fun cs_61 =>
  bnd (law06_two_plays K (some p_15) cs_61 w_59) fun r_62 w_63 =>
  if r_62.1 = true then ((prog.built 34 [(0, (.int .i64 1)), (1, (.int .i64 1)), (2, (.int .i64 3))]).bind fun cs_64 =>
  bnd (law06_two_plays K (some p_15) cs_64 w_63) fun r_65 w_66 =>
  k (r_65.1, ()) w_66) else (k (false, ()) w_63))
  | .ret z_60r => (k (z_60r.1, ()) w_59))))
  | .ret z_35r => (k (z_35r.1, ()) w_34)))))
theorem law06_SpringPlays_s1_ok (K : Nat) : StmtNOk prog [(1, .sl), (10, .int .i64)] [(68, .bool)] [(61, 69)] (fun x w => law06_SpringPlays_s1 K x.1 x.2.1 w) (cd (bodyOf f4) [1, 1, 1, 1, 1, 1, 1, 1, 0, 1, 0, 0, 0, 0]) :=
    mk_stmtN (O := tabL []) (root := (bodyOf f4)) (π := [1, 1, 1, 1, 1, 1, 1, 1, 0, 1, 0, 0, 0, 0]) (Li := [(1, .sl), (10, .int .i64)]) (Lo := [(68, .bool)]) (S := (fun x w => law06_SpringPlays_s1 K x.1 x.2.1 w)) (law06_SpringPlays_Eok K) (law06_SpringPlays_Rok K) rfl (Orc.nil _ _ _) (by kernel_rfl) (fun _ _ => by kernel_rfl)
noncomputable def law06_SpringPlays_s1_se (K : Nat) : SE := stmtN [(1, .sl), (10, .int .i64)] [(68, .bool)] [(61, 69)] (fun x w => law06_SpringPlays_s1 K x.1 x.2.1 w)
theorem law06_SpringPlays_s1_se_ok (K : Nat) (R : Rg) (h : subRB [(61, 69)] R = true) : (law06_SpringPlays_s1_se K).Ok prog R (cd (bodyOf f4) [1, 1, 1, 1, 1, 1, 1, 1, 0, 1, 0, 0, 0, 0]) := stmtN_ok (Li := [(1, .sl), (10, .int .i64)]) (Lo := [(68, .bool)]) (S := (fun x w => law06_SpringPlays_s1 K x.1 x.2.1 w)) (law06_SpringPlays_s1_ok K) (subR_of h)
theorem law06_SpringPlays_l0_ok (K : Nat) (n : Nat) : StmtOk prog [(1, .sl), (5, .addr), (9, .int .i64), (10, .int .i64)] [] [(4, .bool)] [(4, 5), (9, 12), (61, 97)] ((fun n x w => law06_SpringPlays_l0 K n x.1 x.2.1 x.2.2.1 x.2.2.2.1 w) n) (.block 0 (.loop (cd (bodyOf f4) [1, 1, 1, 1, 1, 1, 1, 1, 0, 1, 0, 0]))) :=
    mk_loop (O := tabL [([1, 1, 1, 1, 1, 1, 1, 1, 0, 1, 0, 0, 0, 0], law06_SpringPlays_s1_se K)]) (root := (bodyOf f4)) (π := [1, 1, 1, 1, 1, 1, 1, 1, 0, 1, 0, 0]) (id := 0) (Li := [(1, .sl), (5, .addr), (9, .int .i64), (10, .int .i64)]) (Lo := []) (Lr := [(4, .bool)]) (S := (fun n x w => law06_SpringPlays_l0 K n x.1 x.2.1 x.2.2.1 x.2.2.2.1 w)) (body := cd (bodyOf f4) [1, 1, 1, 1, 1, 1, 1, 1, 0, 1, 0, 0]) (law06_SpringPlays_Eok K) (law06_SpringPlays_Rok K) rfl (Orc.cons (by kernel_rfl) (law06_SpringPlays_s1_se_ok K [(4, 5), (9, 12), (61, 97)] (by kernel_rfl)) (Orc.nil _ _ _)) (by kernel_rfl) (fun _ _ => by kernel_rfl) (fun _ _ _ => by kernel_rfl) n
noncomputable def law06_SpringPlays_l0_se (K : Nat) : SE := stmt [(1, .sl), (5, .addr), (9, .int .i64), (10, .int .i64)] [] [(4, .bool)] [(4, 5), (9, 12), (61, 97)] (fun x w => law06_SpringPlays_l0 K K x.1 x.2.1 x.2.2.1 x.2.2.2.1 w)
theorem law06_SpringPlays_l0_se_ok (K : Nat) (R : Rg) (h : subRB [(4, 5), (9, 12), (61, 97)] R = true) : (law06_SpringPlays_l0_se K).Ok prog R (.block 0 (.loop (cd (bodyOf f4) [1, 1, 1, 1, 1, 1, 1, 1, 0, 1, 0, 0]))) := stmt_ok (Li := [(1, .sl), (5, .addr), (9, .int .i64), (10, .int .i64)]) (Lo := []) (Lr := [(4, .bool)]) (S := (fun x w => law06_SpringPlays_l0 K K x.1 x.2.1 x.2.2.1 x.2.2.2.1 w)) (law06_SpringPlays_l0_ok K K) (subR_of h)
theorem law06_SpringPlays_s2_ok (K : Nat) : StmtNOk prog [(5, .addr)] [(106, .bool)] [(97, 107)] (fun x w => law06_SpringPlays_s2 K x.1 w) (cd (bodyOf f4) [1, 1, 1, 1, 1, 1, 1, 1, 1, 0, 0]) :=
    mk_stmtN (O := tabL []) (root := (bodyOf f4)) (π := [1, 1, 1, 1, 1, 1, 1, 1, 1, 0, 0]) (Li := [(5, .addr)]) (Lo := [(106, .bool)]) (S := (fun x w => law06_SpringPlays_s2 K x.1 w)) (law06_SpringPlays_Eok K) (law06_SpringPlays_Rok K) rfl (Orc.nil _ _ _) (by kernel_rfl) (fun _ _ => by kernel_rfl)
noncomputable def law06_SpringPlays_s2_se (K : Nat) : SE := stmtN [(5, .addr)] [(106, .bool)] [(97, 107)] (fun x w => law06_SpringPlays_s2 K x.1 w)
theorem law06_SpringPlays_s2_se_ok (K : Nat) (R : Rg) (h : subRB [(97, 107)] R = true) : (law06_SpringPlays_s2_se K).Ok prog R (cd (bodyOf f4) [1, 1, 1, 1, 1, 1, 1, 1, 1, 0, 0]) := stmtN_ok (Li := [(5, .addr)]) (Lo := [(106, .bool)]) (S := (fun x w => law06_SpringPlays_s2 K x.1 w)) (law06_SpringPlays_s2_ok K) (subR_of h)
theorem law06_SpringPlays_l3_ok (K : Nat) (n : Nat) : StmtOk prog [(5, .addr), (12, .int .i64)] [] [(4, .bool)] [(4, 5), (12, 13), (107, 140)] ((fun n x w => law06_SpringPlays_l3 K n x.1 x.2.1 w) n) (.block 2 (.loop (cd (bodyOf f4) [1, 1, 1, 1, 1, 1, 1, 1, 1, 1, 0, 1, 0, 0]))) :=
    mk_loop (O := tabL []) (root := (bodyOf f4)) (π := [1, 1, 1, 1, 1, 1, 1, 1, 1, 1, 0, 1, 0, 0]) (id := 2) (Li := [(5, .addr), (12, .int .i64)]) (Lo := []) (Lr := [(4, .bool)]) (S := (fun n x w => law06_SpringPlays_l3 K n x.1 x.2.1 w)) (body := cd (bodyOf f4) [1, 1, 1, 1, 1, 1, 1, 1, 1, 1, 0, 1, 0, 0]) (law06_SpringPlays_Eok K) (law06_SpringPlays_Rok K) rfl (Orc.nil _ _ _) (by kernel_rfl) (fun _ _ => by kernel_rfl) (fun _ _ _ => by kernel_rfl) n
noncomputable def law06_SpringPlays_l3_se (K : Nat) : SE := stmt [(5, .addr), (12, .int .i64)] [] [(4, .bool)] [(4, 5), (12, 13), (107, 140)] (fun x w => law06_SpringPlays_l3 K K x.1 x.2.1 w)
theorem law06_SpringPlays_l3_se_ok (K : Nat) (R : Rg) (h : subRB [(4, 5), (12, 13), (107, 140)] R = true) : (law06_SpringPlays_l3_se K).Ok prog R (.block 2 (.loop (cd (bodyOf f4) [1, 1, 1, 1, 1, 1, 1, 1, 1, 1, 0, 1, 0, 0]))) := stmt_ok (Li := [(5, .addr), (12, .int .i64)]) (Lo := []) (Lr := [(4, .bool)]) (S := (fun x w => law06_SpringPlays_l3 K K x.1 x.2.1 w)) (law06_SpringPlays_l3_ok K K) (subR_of h)
theorem law06_SpringPlays_facts : FunFacts prog 4 f4 (bodyOf f4) [(0, .agg), (1, .sl)] [(0, 148)] := ⟨func4, by kernel_rfl, by kernel_rfl, by kernel_rfl, by kernel_rfl, by kernel_rfl⟩
theorem law06_SpringPlays_calls (K : Nat) {β : Type} (x : TT [(0, .agg), (1, .sl)]) (w : World) (k : TR [.bool] → World → Option β) (r : β) (h : law06_SpringPlays K x.1 x.2.1 w k = some r) : Calls prog 4 (encA [(0, .agg), (1, .sl)] x).toArray w (fun e w3 => ∃ y, e = .returned (resV (encR [.bool] y)) ∧ k y w3 = some r) :=
    mk_funC (O := tabL [([1, 1, 1, 1, 1, 1, 1, 1, 0, 1], law06_SpringPlays_l0_se K), ([1, 1, 1, 1, 1, 1, 1, 1, 0, 1, 0, 0, 0, 0], law06_SpringPlays_s1_se K), ([1, 1, 1, 1, 1, 1, 1, 1, 1, 0, 0], law06_SpringPlays_s2_se K), ([1, 1, 1, 1, 1, 1, 1, 1, 1, 1, 0, 1], law06_SpringPlays_l3_se K)]) (Lp := [(0, .agg), (1, .sl)]) (Rt := [.bool]) (S := (fun x w k => law06_SpringPlays K x.1 x.2.1 w k)) (law06_SpringPlays_Eok K) (law06_SpringPlays_Rok K) rfl law06_SpringPlays_facts (Orc.cons (by kernel_rfl) (law06_SpringPlays_l0_se_ok K [(0, 148)] (by kernel_rfl)) (Orc.cons (by kernel_rfl) (law06_SpringPlays_s1_se_ok K [(0, 148)] (by kernel_rfl)) (Orc.cons (by kernel_rfl) (law06_SpringPlays_s2_se_ok K [(0, 148)] (by kernel_rfl)) (Orc.cons (by kernel_rfl) (law06_SpringPlays_l3_se_ok K [(0, 148)] (by kernel_rfl)) (Orc.nil _ _ _))))) (fun _ _ _ => by kernel_rfl) x w k r h
noncomputable def law06_SpringPlays_ce (K : Nat) : CE := funC [(0, .agg), (1, .sl)] [.bool] (fun {_} x w k => law06_SpringPlays K x.1 x.2.1 w k)
theorem law06_SpringPlays_ok (K : Nat) : (law06_SpringPlays_ce K).Ok prog 4 := funC_ok (Rt := [.bool]) (S := (fun {_} x w k => law06_SpringPlays K x.1 x.2.1 w k)) law06_SpringPlays_facts fun x w k r h => law06_SpringPlays_calls K x w k r h

end Go.Sh
