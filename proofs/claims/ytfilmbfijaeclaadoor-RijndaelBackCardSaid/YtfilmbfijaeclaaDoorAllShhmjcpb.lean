/- Texts of this claim, put together: Sh2, Sh3 -/
import Derived.Test.YtfilmbfijaeclaaDoorAllShnojgfl
/- What functions of the program do, as Lean functions; that the machine does just that. Printed by shal.py, a program of this claim's writer. -/
set_option maxRecDepth 100000
set_option linter.unusedVariables false
namespace Go.Sh
open Go.Fw Go.Proofs.Tryd

noncomputable def book_WholeBytes_E (K : Nat) : List (Nat × CE) := [(31, book_SameBytes_ce K)]
theorem book_WholeBytes_Eok (K : Nat) : Env.Ok prog (tab (book_WholeBytes_E K)) := (Env.cons (book_SameBytes_ok K) (Env.nil _))
noncomputable def book_WholeBytes_R (K : Nat) : List (Nat × RE) := []
theorem book_WholeBytes_Rok (K : Nat) : REnv.Ok prog (tab (book_WholeBytes_R K)) := (REnv.nil _)
noncomputable def book_WholeBytes_l0_b (K : Nat) (rec : Int → Sl → Int → World → Option ((Out (Unit) (Bool × Unit)) × World)) (n5 : Int) (all6 : Sl) (i7 : Int) (w : World) : Option ((Out (Unit) (Bool × Unit)) × World) :=
  if (decide (i7 < 70)) = true then ((all6.a).bind fun p_3 =>
  if (0 : Int) ≤ (IntKind.i64.wrap (n5 + i7)) ∧ (IntKind.i64.wrap (n5 + i7)) < ((all6.len : Nat) : Int) then ((ldI .u8 (p_3.add ((Int.toNat (IntKind.i64.wrap (n5 + i7))) * 1)) w).bind fun v_4 =>
  if (v_4 != (IntKind.u8.wrap (IntKind.i64.wrap (181 + i7)))) = true then (some (.ret (false, ()), w)) else (rec n5 all6 (IntKind.i64.wrap (i7 + 1)) w)) else none) else (some (.norm (), w))
noncomputable def book_WholeBytes_l0 (K : Nat) (n : Nat) : Int → Sl → Int → World → Option ((Out (Unit) (Bool × Unit)) × World) := iter (fun _ _ _ _ => none) (book_WholeBytes_l0_b K) n
/-- coffer/cofferbook.WholeBytes -/
noncomputable def book_WholeBytes (K : Nat) (c0 : Sl) (l1 : Sl) (w : World) : Option ((Bool × Unit) × World) :=
  bnd (book_SameBytes K c0 l1 w) fun r_1 w_2 =>
  if (!r_1.1) = true then (some ((false, ()), w_2)) else (if (0 : Int) ≤ (IntKind.i64.wrap (((c0.len : Nat) : Int) + 70)) ∧ (IntKind.i64.wrap (((c0.len : Nat) : Int) + 70)) ≤ ((c0.cap : Nat) : Int) then (bnd (book_WholeBytes_l0 K K ((c0.len : Nat) : Int) ⟨(sla c0.a 0 c0.cap 1), ((Int.toNat ((IntKind.i64.wrap (((c0.len : Nat) : Int) + 70)))) - 0), (c0.cap - 0)⟩ 0 w_2) fun y_5 w_6 =>
  (match y_5 with
  | .norm z_7n => (some ((true, ()), w_6))
  | .ret z_7r => (some ((z_7r.1, ()), w_6)))) else none)
theorem book_WholeBytes_l0_ok (K : Nat) (n : Nat) : StmtOk prog [(5, .int .i64), (6, .sl), (7, .int .i64)] [] [(4, .bool)] [(4, 5), (7, 8), (18, 32)] ((fun n x w => book_WholeBytes_l0 K n x.1 x.2.1 x.2.2.1 w) n) (.block 0 (.loop (cd (bodyOf f13) [1, 1, 1, 1, 0, 1, 0, 0]))) :=
    mk_loop (O := tabL []) (root := (bodyOf f13)) (π := [1, 1, 1, 1, 0, 1, 0, 0]) (id := 0) (Li := [(5, .int .i64), (6, .sl), (7, .int .i64)]) (Lo := []) (Lr := [(4, .bool)]) (S := (fun n x w => book_WholeBytes_l0 K n x.1 x.2.1 x.2.2.1 w)) (body := cd (bodyOf f13) [1, 1, 1, 1, 0, 1, 0, 0]) (book_WholeBytes_Eok K) (book_WholeBytes_Rok K) rfl (Orc.nil _ _ _) (by kernel_rfl) (fun _ _ => by kernel_rfl) (fun _ _ _ => by kernel_rfl) n
noncomputable def book_WholeBytes_l0_se (K : Nat) : SE := stmt [(5, .int .i64), (6, .sl), (7, .int .i64)] [] [(4, .bool)] [(4, 5), (7, 8), (18, 32)] (fun x w => book_WholeBytes_l0 K K x.1 x.2.1 x.2.2.1 w)
theorem book_WholeBytes_l0_se_ok (K : Nat) (R : Rg) (h : subRB [(4, 5), (7, 8), (18, 32)] R = true) : (book_WholeBytes_l0_se K).Ok prog R (.block 0 (.loop (cd (bodyOf f13) [1, 1, 1, 1, 0, 1, 0, 0]))) := stmt_ok (Li := [(5, .int .i64), (6, .sl), (7, .int .i64)]) (Lo := []) (Lr := [(4, .bool)]) (S := (fun x w => book_WholeBytes_l0 K K x.1 x.2.1 x.2.2.1 w)) (book_WholeBytes_l0_ok K K) (subR_of h)
theorem book_WholeBytes_facts : FunFacts prog 13 f13 (bodyOf f13) [(0, .sl), (1, .sl)] [(0, 32)] := ⟨func13, by kernel_rfl, by kernel_rfl, by kernel_rfl, by kernel_rfl, by kernel_rfl⟩
theorem book_WholeBytes_calls (K : Nat) (x : TT [(0, .sl), (1, .sl)]) (w : World) (y : TR [.bool]) (w2 : World) (h : book_WholeBytes K x.1 x.2.1 w = some (y, w2)) : Calls prog 13 (encA [(0, .sl), (1, .sl)] x).toArray w (fun e w3 => e = .returned (resV (encR [.bool] y)) ∧ w3 = w2) :=
    mk_fun (O := tabL [([1, 1, 1, 1, 0, 1], book_WholeBytes_l0_se K)]) (Lp := [(0, .sl), (1, .sl)]) (Rt := [.bool]) (S := (fun x w => book_WholeBytes K x.1 x.2.1 w)) (book_WholeBytes_Eok K) (book_WholeBytes_Rok K) rfl book_WholeBytes_facts (Orc.cons (by kernel_rfl) (book_WholeBytes_l0_se_ok K [(0, 32)] (by kernel_rfl)) (Orc.nil _ _ _)) (fun _ _ => by kernel_rfl) x w y w2 h
noncomputable def book_WholeBytes_ce (K : Nat) : CE := funE [(0, .sl), (1, .sl)] [.bool] (fun x w => book_WholeBytes K x.1 x.2.1 w)
theorem book_WholeBytes_ok (K : Nat) : (book_WholeBytes_ce K).Ok prog 13 := funE_ok (Rt := [.bool]) (S := (fun x w => book_WholeBytes K x.1 x.2.1 w)) book_WholeBytes_facts fun x w y w2 h => book_WholeBytes_calls K x w y w2 h

noncomputable def rijndael_Key_Size_E : List (Nat × CE) := [(44, rijndael_Key_schedule_ce)]
theorem rijndael_Key_Size_Eok : Env.Ok prog (tab (rijndael_Key_Size_E)) := (Env.cons (rijndael_Key_schedule_ok) (Env.nil _))
noncomputable def rijndael_Key_Size_R : List (Nat × RE) := []
theorem rijndael_Key_Size_Rok : REnv.Ok prog (tab (rijndael_Key_Size_R)) := (REnv.nil _)
/-- (*coffer/rijndael.Key).Size -/
noncomputable def rijndael_Key_Size (k0 : Option Addr) (w : World) : Option ((Int × Unit) × World) :=
  bnd (rijndael_Key_schedule k0 false w) fun r_1 w_2 =>
  if (r_1.2.1 != 0) = true then (some ((0, ()), w_2)) else ((k0).bind fun p_3 =>
  (ldI .i64 (p_3.add 6) w_2).bind fun v_4 =>
  some ((v_4, ()), w_2))
theorem rijndael_Key_Size_facts : FunFacts prog 14 f14 (bodyOf f14) [(0, .ptr)] [(0, 16)] := ⟨func14, by kernel_rfl, by kernel_rfl, by kernel_rfl, by kernel_rfl, by kernel_rfl⟩
theorem rijndael_Key_Size_calls (x : TT [(0, .ptr)]) (w : World) (y : TR [.int .i64]) (w2 : World) (h : rijndael_Key_Size x.1 w = some (y, w2)) : Calls prog 14 (encA [(0, .ptr)] x).toArray w (fun e w3 => e = .returned (resV (encR [.int .i64] y)) ∧ w3 = w2) :=
    mk_fun (O := tabL []) (Lp := [(0, .ptr)]) (Rt := [.int .i64]) (S := (fun x w => rijndael_Key_Size x.1 w)) (rijndael_Key_Size_Eok) (rijndael_Key_Size_Rok) rfl rijndael_Key_Size_facts (Orc.nil _ _ _) (fun _ _ => by kernel_rfl) x w y w2 h
noncomputable def rijndael_Key_Size_ce : CE := funE [(0, .ptr)] [.int .i64] (fun x w => rijndael_Key_Size x.1 w)
theorem rijndael_Key_Size_ok : (rijndael_Key_Size_ce).Ok prog 14 := funE_ok (Rt := [.int .i64]) (S := (fun x w => rijndael_Key_Size x.1 w)) rijndael_Key_Size_facts fun x w y w2 h => rijndael_Key_Size_calls x w y w2 h

noncomputable def rijndael_Key_Rounds_E : List (Nat × CE) := [(44, rijndael_Key_schedule_ce)]
theorem rijndael_Key_Rounds_Eok : Env.Ok prog (tab (rijndael_Key_Rounds_E)) := (Env.cons (rijndael_Key_schedule_ok) (Env.nil _))
noncomputable def rijndael_Key_Rounds_R : List (Nat × RE) := []
theorem rijndael_Key_Rounds_Rok : REnv.Ok prog (tab (rijndael_Key_Rounds_R)) := (REnv.nil _)
/-- (*coffer/rijndael.Key).Rounds -/
noncomputable def rijndael_Key_Rounds (k0 : Option Addr) (w : World) : Option ((Int × Unit) × World) :=
  bnd (rijndael_Key_schedule k0 false w) fun r_1 w_2 =>
  some (((if (IntKind.i64.wrap ((IntKind.i64.wrap (Int.tdiv ((r_1.1.len : Nat) : Int) 4)) - 1)) > 0 then (IntKind.i64.wrap ((IntKind.i64.wrap (Int.tdiv ((r_1.1.len : Nat) : Int) 4)) - 1)) else 0), ()), w_2)
theorem rijndael_Key_Rounds_facts : FunFacts prog 15 f15 (bodyOf f15) [(0, .ptr)] [(0, 15)] := ⟨func15, by kernel_rfl, by kernel_rfl, by kernel_rfl, by kernel_rfl, by kernel_rfl⟩
theorem rijndael_Key_Rounds_calls (x : TT [(0, .ptr)]) (w : World) (y : TR [.int .i64]) (w2 : World) (h : rijndael_Key_Rounds x.1 w = some (y, w2)) : Calls prog 15 (encA [(0, .ptr)] x).toArray w (fun e w3 => e = .returned (resV (encR [.int .i64] y)) ∧ w3 = w2) :=
    mk_fun (O := tabL []) (Lp := [(0, .ptr)]) (Rt := [.int .i64]) (S := (fun x w => rijndael_Key_Rounds x.1 w)) (rijndael_Key_Rounds_Eok) (rijndael_Key_Rounds_Rok) rfl rijndael_Key_Rounds_facts (Orc.nil _ _ _) (fun _ _ => by kernel_rfl) x w y w2 h
noncomputable def rijndael_Key_Rounds_ce : CE := funE [(0, .ptr)] [.int .i64] (fun x w => rijndael_Key_Rounds x.1 w)
theorem rijndael_Key_Rounds_ok : (rijndael_Key_Rounds_ce).Ok prog 15 := funE_ok (Rt := [.int .i64]) (S := (fun x w => rijndael_Key_Rounds x.1 w)) rijndael_Key_Rounds_facts fun x w y w2 h => rijndael_Key_Rounds_calls x w y w2 h

noncomputable def rijndael_Key_Words_E : List (Nat × CE) := [(44, rijndael_Key_schedule_ce)]
theorem rijndael_Key_Words_Eok : Env.Ok prog (tab (rijndael_Key_Words_E)) := (Env.cons (rijndael_Key_schedule_ok) (Env.nil _))
noncomputable def rijndael_Key_Words_R : List (Nat × RE) := []
theorem rijndael_Key_Words_Rok : REnv.Ok prog (tab (rijndael_Key_Words_R)) := (REnv.nil _)
/-- (*coffer/rijndael.Key).Words -/
noncomputable def rijndael_Key_Words (k0 : Option Addr) (w : World) : Option ((Sl × Unit) × World) :=
  bnd (rijndael_Key_schedule k0 false w) fun r_1 w_2 =>
  bnd (apd prog 34 34 (.slice none 0 0) (.slice r_1.1.a r_1.1.len r_1.1.cap) w_2) fun s_3 w_4 =>
  some ((s_3, ()), w_4)
theorem rijndael_Key_Words_facts : FunFacts prog 16 f16 (bodyOf f16) [(0, .ptr)] [(0, 12)] := ⟨func16, by kernel_rfl, by kernel_rfl, by kernel_rfl, by kernel_rfl, by kernel_rfl⟩
theorem rijndael_Key_Words_calls (x : TT [(0, .ptr)]) (w : World) (y : TR [.sl]) (w2 : World) (h : rijndael_Key_Words x.1 w = some (y, w2)) : Calls prog 16 (encA [(0, .ptr)] x).toArray w (fun e w3 => e = .returned (resV (encR [.sl] y)) ∧ w3 = w2) :=
    mk_fun (O := tabL []) (Lp := [(0, .ptr)]) (Rt := [.sl]) (S := (fun x w => rijndael_Key_Words x.1 w)) (rijndael_Key_Words_Eok) (rijndael_Key_Words_Rok) rfl rijndael_Key_Words_facts (Orc.nil _ _ _) (fun _ _ => by kernel_rfl) x w y w2 h
noncomputable def rijndael_Key_Words_ce : CE := funE [(0, .ptr)] [.sl] (fun x w => rijndael_Key_Words x.1 w)
theorem rijndael_Key_Words_ok : (rijndael_Key_Words_ce).Ok prog 16 := funE_ok (Rt := [.sl]) (S := (fun x w => rijndael_Key_Words x.1 w)) rijndael_Key_Words_facts fun x w y w2 h => rijndael_Key_Words_calls x w y w2 h

noncomputable def book_SpoilBytes_E (K : Nat) : List (Nat × CE) := []
theorem book_SpoilBytes_Eok (K : Nat) : Env.Ok prog (tab (book_SpoilBytes_E K)) := (Env.nil _)
noncomputable def book_SpoilBytes_R (K : Nat) : List (Nat × RE) := []
theorem book_SpoilBytes_Rok (K : Nat) : REnv.Ok prog (tab (book_SpoilBytes_R K)) := (REnv.nil _)
noncomputable def book_SpoilBytes_l0_b (K : Nat) (rec : Sl → Int → World → Option ((Unit) × World)) (l0 : Sl) (i2 : Int) (w : World) : Option ((Unit) × World) :=
  if (decide (i2 < ((l0.len : Nat) : Int))) = true then ((l0.a).bind fun p_1 =>
  if (0 : Int) ≤ i2 ∧ i2 < ((l0.len : Nat) : Int) then ((ldI .u8 (p_1.add ((Int.toNat i2) * 1)) w).bind fun v_2 =>
  (l0.a).bind fun p_3 =>
  if (0 : Int) ≤ i2 ∧ i2 < ((l0.len : Nat) : Int) then ((stC (p_3.add ((Int.toNat i2) * 1)) (.int .u8 (bits .xor .u8 v_2 165)) w).bind fun w_4 =>
  rec l0 (IntKind.i64.wrap (i2 + 1)) w_4) else none) else none) else (some ((), w))
noncomputable def book_SpoilBytes_l0 (K : Nat) (n : Nat) : Sl → Int → World → Option ((Unit) × World) := iter (fun _ _ _ => none) (book_SpoilBytes_l0_b K) n
noncomputable def book_SpoilBytes_l1_b (K : Nat) (rec : Sl → Int → World → Option ((Sl × Unit) × World)) (l0 : Sl) (i3 : Int) (w : World) : Option ((Sl × Unit) × World) :=
  if (decide (i3 < 70)) = true then (bnd (bldS prog 22 1 #[(0, (.int .u8 (IntKind.u8.wrap (IntKind.i64.wrap ((IntKind.i64.wrap (7 * i3)) + 3)))))] w) fun s_11 w_12 =>
  bnd (apd prog 22 22 (.slice l0.a l0.len l0.cap) (.slice s_11.a s_11.len s_11.cap) w_12) fun s_13 w_14 =>
  rec s_13 (IntKind.i64.wrap (i3 + 1)) w_14) else (some ((l0, ()), w))
noncomputable def book_SpoilBytes_l1 (K : Nat) (n : Nat) : Sl → Int → World → Option ((Sl × Unit) × World) := iter (fun _ _ _ => none) (book_SpoilBytes_l1_b K) n
/-- coffer/cofferbook.SpoilBytes -/
noncomputable def book_SpoilBytes (K : Nat) (l0 : Sl) (w : World) : Option ((Unit) × World) :=
  bnd (book_SpoilBytes_l0 K K l0 0 w) fun y_5 w_6 =>
  bnd (bldS prog 22 1 #[(0, (.int .u8 1))] w_6) fun s_7 w_8 =>
  bnd (apd prog 22 22 (.slice l0.a l0.len l0.cap) (.slice s_7.a s_7.len s_7.cap) w_8) fun s_9 w_10 =>
  bnd (book_SpoilBytes_l1 K K s_9 0 w_10) fun y_15 w_16 =>
  (y_15.1.a).bind fun p_17 =>
  if (0 : Int) ≤ (IntKind.i64.wrap (((y_15.1.len : Nat) : Int) - 1)) ∧ (IntKind.i64.wrap (((y_15.1.len : Nat) : Int) - 1)) < ((y_15.1.len : Nat) : Int) then ((stC (p_17.add ((Int.toNat (IntKind.i64.wrap (((y_15.1.len : Nat) : Int) - 1))) * 1)) (.int .u8 77) w_16).bind fun w_18 =>
  some ((), w_18)) else none
theorem book_SpoilBytes_l0_ok (K : Nat) (n : Nat) : StmtNOk prog [(0, .sl), (2, .int .i64)] [] [(2, 3), (4, 18)] ((fun n x w => book_SpoilBytes_l0 K n x.1 x.2.1 w) n) (.block 0 (.loop (cd (bodyOf f17) [0, 1, 0, 0]))) :=
    mk_loopN (O := tabL []) (root := (bodyOf f17)) (π := [0, 1, 0, 0]) (id := 0) (Li := [(0, .sl), (2, .int .i64)]) (Lo := []) (S := (fun n x w => book_SpoilBytes_l0 K n x.1 x.2.1 w)) (body := cd (bodyOf f17) [0, 1, 0, 0]) (book_SpoilBytes_Eok K) (book_SpoilBytes_Rok K) rfl (Orc.nil _ _ _) (by kernel_rfl) (fun _ _ => by kernel_rfl) (fun _ _ _ => by kernel_rfl) n
noncomputable def book_SpoilBytes_l0_se (K : Nat) : SE := stmtN [(0, .sl), (2, .int .i64)] [] [(2, 3), (4, 18)] (fun x w => book_SpoilBytes_l0 K K x.1 x.2.1 w)
theorem book_SpoilBytes_l0_se_ok (K : Nat) (R : Rg) (h : subRB [(2, 3), (4, 18)] R = true) : (book_SpoilBytes_l0_se K).Ok prog R (.block 0 (.loop (cd (bodyOf f17) [0, 1, 0, 0]))) := stmtN_ok (Li := [(0, .sl), (2, .int .i64)]) (Lo := []) (S := (fun x w => book_SpoilBytes_l0 K K x.1 x.2.1 w)) (book_SpoilBytes_l0_ok K K) (subR_of h)
theorem book_SpoilBytes_l1_ok (K : Nat) (n : Nat) : StmtNOk prog [(0, .sl), (3, .int .i64)] [(0, .sl)] [(0, 1), (3, 4), (21, 32)] ((fun n x w => book_SpoilBytes_l1 K n x.1 x.2.1 w) n) (.block 2 (.loop (cd (bodyOf f17) [1, 1, 0, 1, 0, 0]))) :=
    mk_loopN (O := tabL []) (root := (bodyOf f17)) (π := [1, 1, 0, 1, 0, 0]) (id := 2) (Li := [(0, .sl), (3, .int .i64)]) (Lo := [(0, .sl)]) (S := (fun n x w => book_SpoilBytes_l1 K n x.1 x.2.1 w)) (body := cd (bodyOf f17) [1, 1, 0, 1, 0, 0]) (book_SpoilBytes_Eok K) (book_SpoilBytes_Rok K) rfl (Orc.nil _ _ _) (by kernel_rfl) (fun _ _ => by kernel_rfl) (fun _ _ _ => by kernel_rfl) n
noncomputable def book_SpoilBytes_l1_se (K : Nat) : SE := stmtN [(0, .sl), (3, .int .i64)] [(0, .sl)] [(0, 1), (3, 4), (21, 32)] (fun x w => book_SpoilBytes_l1 K K x.1 x.2.1 w)
theorem book_SpoilBytes_l1_se_ok (K : Nat) (R : Rg) (h : subRB [(0, 1), (3, 4), (21, 32)] R = true) : (book_SpoilBytes_l1_se K).Ok prog R (.block 2 (.loop (cd (bodyOf f17) [1, 1, 0, 1, 0, 0]))) := stmtN_ok (Li := [(0, .sl), (3, .int .i64)]) (Lo := [(0, .sl)]) (S := (fun x w => book_SpoilBytes_l1 K K x.1 x.2.1 w)) (book_SpoilBytes_l1_ok K K) (subR_of h)
theorem book_SpoilBytes_facts : FunFacts prog 17 f17 (bodyOf f17) [(0, .sl)] [(0, 37)] := ⟨func17, by kernel_rfl, by kernel_rfl, by kernel_rfl, by kernel_rfl, by kernel_rfl⟩
theorem book_SpoilBytes_calls (K : Nat) (x : TT [(0, .sl)]) (w : World) (y : TR []) (w2 : World) (h : book_SpoilBytes K x.1 w = some (y, w2)) : Calls prog 17 (encA [(0, .sl)] x).toArray w (fun e w3 => e = .returned (resV (encR [] y)) ∧ w3 = w2) :=
    mk_fun (O := tabL [([0, 1], book_SpoilBytes_l0_se K), ([1, 1, 0, 1], book_SpoilBytes_l1_se K)]) (Lp := [(0, .sl)]) (Rt := []) (S := (fun x w => book_SpoilBytes K x.1 w)) (book_SpoilBytes_Eok K) (book_SpoilBytes_Rok K) rfl book_SpoilBytes_facts (Orc.cons (by kernel_rfl) (book_SpoilBytes_l0_se_ok K [(0, 37)] (by kernel_rfl)) (Orc.cons (by kernel_rfl) (book_SpoilBytes_l1_se_ok K [(0, 37)] (by kernel_rfl)) (Orc.nil _ _ _))) (fun _ _ => by kernel_rfl) x w y w2 h
noncomputable def book_SpoilBytes_ce (K : Nat) : CE := funE [(0, .sl)] [] (fun x w => book_SpoilBytes K x.1 w)
theorem book_SpoilBytes_ok (K : Nat) : (book_SpoilBytes_ce K).Ok prog 17 := funE_ok (Rt := []) (S := (fun x w => book_SpoilBytes K x.1 w)) book_SpoilBytes_facts fun x w y w2 h => book_SpoilBytes_calls K x w y w2 h

noncomputable def ref02_Key_Words_E (K : Nat) : List (Nat × CE) := []
theorem ref02_Key_Words_Eok (K : Nat) : Env.Ok prog (tab (ref02_Key_Words_E K)) := (Env.nil _)
noncomputable def ref02_Key_Words_R (K : Nat) : List (Nat × RE) := []
theorem ref02_Key_Words_Rok (K : Nat) : REnv.Ok prog (tab (ref02_Key_Words_R K)) := (REnv.nil _)
noncomputable def ref02_Key_Words_l0_b (K : Nat) (rec : Option Addr → Sl → Int → World → Option ((Sl × Unit) × World)) (k0 : Option Addr) (l3 : Sl) (i4 : Int) (w : World) : Option ((Sl × Unit) × World) :=
  (k0).bind fun p_1 =>
  (ldS (p_1.add 1) w).bind fun v_2 =>
  if (decide (i4 < ((v_2.len : Nat) : Int))) = true then ((k0).bind fun p_3 =>
  (k0).bind fun p_4 =>
  (k0).bind fun p_5 =>
  (k0).bind fun p_6 =>
  (ldS (p_3.add 1) w.drew).bind fun v_7 =>
  (v_7.a).bind fun p_8 =>
  if (0 : Int) ≤ i4 ∧ i4 < ((v_7.len : Nat) : Int) then ((ldI .u8 (p_8.add ((Int.toNat i4) * 1)) w.drew).bind fun v_9 =>
  (ldS (p_4.add 1) w.drew).bind fun v_10 =>
  (v_10.a).bind fun p_11 =>
  if (0 : Int) ≤ (IntKind.i64.wrap (i4 + 1)) ∧ (IntKind.i64.wrap (i4 + 1)) < ((v_10.len : Nat) : Int) then ((ldI .u8 (p_11.add ((Int.toNat (IntKind.i64.wrap (i4 + 1))) * 1)) w.drew).bind fun v_12 =>
  (ldS (p_5.add 1) w.drew).bind fun v_13 =>
  (v_13.a).bind fun p_14 =>
  if (0 : Int) ≤ (IntKind.i64.wrap (i4 + 2)) ∧ (IntKind.i64.wrap (i4 + 2)) < ((v_13.len : Nat) : Int) then ((ldI .u8 (p_14.add ((Int.toNat (IntKind.i64.wrap (i4 + 2))) * 1)) w.drew).bind fun v_15 =>
  (ldS (p_6.add 1) w.drew).bind fun v_16 =>
  (v_16.a).bind fun p_17 =>
  if (0 : Int) ≤ (IntKind.i64.wrap (i4 + 3)) ∧ (IntKind.i64.wrap (i4 + 3)) < ((v_16.len : Nat) : Int) then ((ldI .u8 (p_17.add ((Int.toNat (IntKind.i64.wrap (i4 + 3))) * 1)) w.drew).bind fun v_18 =>
  bnd (bldS prog 34 1 #[(0, (.int .u32 (bits .or .u32 (bits .or .u32 (bits .or .u32 (IntKind.u32.wrap ((IntKind.u32.wrap v_9) * 2 ^ 24)) (IntKind.u32.wrap ((IntKind.u32.wrap v_12) * 2 ^ 16))) (IntKind.u32.wrap ((IntKind.u32.wrap v_15) * 2 ^ 8))) (IntKind.u32.wrap v_18))))] w.drew) fun s_19 w_20 =>
  bnd (apd prog 34 34 (.slice l3.a l3.len l3.cap) (.slice s_19.a s_19.len s_19.cap) w_20) fun s_21 w_22 =>
  rec k0 s_21 (IntKind.i64.wrap (i4 + 4)) w_22) else none) else none) else none) else none) else (some ((l3, ()), w))
noncomputable def ref02_Key_Words_l0 (K : Nat) (n : Nat) : Option Addr → Sl → Int → World → Option ((Sl × Unit) × World) := iter (fun _ _ _ _ => none) (ref02_Key_Words_l0_b K) n
/-- (*coffer/cofferref02.Key).Words -/
noncomputable def ref02_Key_Words (K : Nat) (k0 : Option Addr) (w : World) : Option ((Sl × Unit) × World) :=
  bnd (ref02_Key_Words_l0 K K k0 ⟨none, 0, 0⟩ 0 w) fun y_23 w_24 =>
  some ((y_23.1, ()), w_24)
theorem ref02_Key_Words_l0_ok (K : Nat) (n : Nat) : StmtNOk prog [(0, .ptr), (3, .sl), (4, .int .i64)] [(3, .sl)] [(3, 58)] ((fun n x w => ref02_Key_Words_l0 K n x.1 x.2.1 x.2.2.1 w) n) (.block 0 (.loop (cd (bodyOf f19) [1, 1, 0, 1, 0, 0]))) :=
    mk_loopN (O := tabL []) (root := (bodyOf f19)) (π := [1, 1, 0, 1, 0, 0]) (id := 0) (Li := [(0, .ptr), (3, .sl), (4, .int .i64)]) (Lo := [(3, .sl)]) (S := (fun n x w => ref02_Key_Words_l0 K n x.1 x.2.1 x.2.2.1 w)) (body := cd (bodyOf f19) [1, 1, 0, 1, 0, 0]) (ref02_Key_Words_Eok K) (ref02_Key_Words_Rok K) rfl (Orc.nil _ _ _) (by kernel_rfl) (fun _ _ => by kernel_rfl) (fun _ _ _ => by kernel_rfl) n
noncomputable def ref02_Key_Words_l0_se (K : Nat) : SE := stmtN [(0, .ptr), (3, .sl), (4, .int .i64)] [(3, .sl)] [(3, 58)] (fun x w => ref02_Key_Words_l0 K K x.1 x.2.1 x.2.2.1 w)
theorem ref02_Key_Words_l0_se_ok (K : Nat) (R : Rg) (h : subRB [(3, 58)] R = true) : (ref02_Key_Words_l0_se K).Ok prog R (.block 0 (.loop (cd (bodyOf f19) [1, 1, 0, 1, 0, 0]))) := stmtN_ok (Li := [(0, .ptr), (3, .sl), (4, .int .i64)]) (Lo := [(3, .sl)]) (S := (fun x w => ref02_Key_Words_l0 K K x.1 x.2.1 x.2.2.1 w)) (ref02_Key_Words_l0_ok K K) (subR_of h)
theorem ref02_Key_Words_facts : FunFacts prog 19 f19 (bodyOf f19) [(0, .ptr)] [(0, 59)] := ⟨func19, by kernel_rfl, by kernel_rfl, by kernel_rfl, by kernel_rfl, by kernel_rfl⟩
theorem ref02_Key_Words_calls (K : Nat) (x : TT [(0, .ptr)]) (w : World) (y : TR [.sl]) (w2 : World) (h : ref02_Key_Words K x.1 w = some (y, w2)) : Calls prog 19 (encA [(0, .ptr)] x).toArray w (fun e w3 => e = .returned (resV (encR [.sl] y)) ∧ w3 = w2) :=
    mk_fun (O := tabL [([1, 1, 0, 1], ref02_Key_Words_l0_se K)]) (Lp := [(0, .ptr)]) (Rt := [.sl]) (S := (fun x w => ref02_Key_Words K x.1 w)) (ref02_Key_Words_Eok K) (ref02_Key_Words_Rok K) rfl ref02_Key_Words_facts (Orc.cons (by kernel_rfl) (ref02_Key_Words_l0_se_ok K [(0, 59)] (by kernel_rfl)) (Orc.nil _ _ _)) (fun _ _ => by kernel_rfl) x w y w2 h
noncomputable def ref02_Key_Words_ce (K : Nat) : CE := funE [(0, .ptr)] [.sl] (fun x w => ref02_Key_Words K x.1 w)
theorem ref02_Key_Words_ok (K : Nat) : (ref02_Key_Words_ce K).Ok prog 19 := funE_ok (Rt := [.sl]) (S := (fun x w => ref02_Key_Words K x.1 w)) ref02_Key_Words_facts fun x w y w2 h => ref02_Key_Words_calls K x w y w2 h

noncomputable def book_SameUint32s_E (K : Nat) : List (Nat × CE) := []
theorem book_SameUint32s_Eok (K : Nat) : Env.Ok prog (tab (book_SameUint32s_E K)) := (Env.nil _)
noncomputable def book_SameUint32s_R (K : Nat) : List (Nat × RE) := []
theorem book_SameUint32s_Rok (K : Nat) : REnv.Ok prog (tab (book_SameUint32s_R K)) := (REnv.nil _)
noncomputable def book_SameUint32s_l0_b (K : Nat) (rec : Sl → Sl → Int → World → Option ((Out (Unit) (Bool × Unit)) × World)) (a0 : Sl) (b1 : Sl) (i5 : Int) (w : World) : Option ((Out (Unit) (Bool × Unit)) × World) :=
  if (decide (i5 < ((a0.len : Nat) : Int))) = true then ((a0.a).bind fun p_1 =>
  if (0 : Int) ≤ i5 ∧ i5 < ((a0.len : Nat) : Int) then ((b1.a).bind fun p_2 =>
  if (0 : Int) ≤ i5 ∧ i5 < ((b1.len : Nat) : Int) then ((ldI .u32 (p_1.add ((Int.toNat i5) * 1)) w.drew).bind fun v_3 =>
  (ldI .u32 (p_2.add ((Int.toNat i5) * 1)) w.drew).bind fun v_4 =>
  if (v_3 != v_4) = true then (some (.ret (false, ()), w.drew)) else (rec a0 b1 (IntKind.i64.wrap (i5 + 1)) w.drew)) else none) else none) else (some (.norm (), w))
noncomputable def book_SameUint32s_l0 (K : Nat) (n : Nat) : Sl → Sl → Int → World → Option ((Out (Unit) (Bool × Unit)) × World) := iter (fun _ _ _ _ => none) (book_SameUint32s_l0_b K) n
/-- coffer/cofferbook.SameUint32s -/
noncomputable def book_SameUint32s (K : Nat) (a0 : Sl) (b1 : Sl) (w : World) : Option ((Bool × Unit) × World) :=
  if (((a0.len : Nat) : Int) != ((b1.len : Nat) : Int)) = true then (some ((false, ()), w)) else (bnd (book_SameUint32s_l0 K K a0 b1 0 w) fun y_5 w_6 =>
  (match y_5 with
  | .norm z_7n => (some ((true, ()), w_6))
  | .ret z_7r => (some ((z_7r.1, ()), w_6))))
theorem book_SameUint32s_l0_ok (K : Nat) (n : Nat) : StmtOk prog [(0, .sl), (1, .sl), (5, .int .i64)] [] [(4, .bool)] [(4, 6), (11, 26)] ((fun n x w => book_SameUint32s_l0 K n x.1 x.2.1 x.2.2.1 w) n) (.block 0 (.loop (cd (bodyOf f18) [1, 1, 0, 1, 0, 0]))) :=
    mk_loop (O := tabL []) (root := (bodyOf f18)) (π := [1, 1, 0, 1, 0, 0]) (id := 0) (Li := [(0, .sl), (1, .sl), (5, .int .i64)]) (Lo := []) (Lr := [(4, .bool)]) (S := (fun n x w => book_SameUint32s_l0 K n x.1 x.2.1 x.2.2.1 w)) (body := cd (bodyOf f18) [1, 1, 0, 1, 0, 0]) (book_SameUint32s_Eok K) (book_SameUint32s_Rok K) rfl (Orc.nil _ _ _) (by kernel_rfl) (fun _ _ => by kernel_rfl) (fun _ _ _ => by kernel_rfl) n
noncomputable def book_SameUint32s_l0_se (K : Nat) : SE := stmt [(0, .sl), (1, .sl), (5, .int .i64)] [] [(4, .bool)] [(4, 6), (11, 26)] (fun x w => book_SameUint32s_l0 K K x.1 x.2.1 x.2.2.1 w)
theorem book_SameUint32s_l0_se_ok (K : Nat) (R : Rg) (h : subRB [(4, 6), (11, 26)] R = true) : (book_SameUint32s_l0_se K).Ok prog R (.block 0 (.loop (cd (bodyOf f18) [1, 1, 0, 1, 0, 0]))) := stmt_ok (Li := [(0, .sl), (1, .sl), (5, .int .i64)]) (Lo := []) (Lr := [(4, .bool)]) (S := (fun x w => book_SameUint32s_l0 K K x.1 x.2.1 x.2.2.1 w)) (book_SameUint32s_l0_ok K K) (subR_of h)
theorem book_SameUint32s_facts : FunFacts prog 18 f18 (bodyOf f18) [(0, .sl), (1, .sl)] [(0, 26)] := ⟨func18, by kernel_rfl, by kernel_rfl, by kernel_rfl, by kernel_rfl, by kernel_rfl⟩
theorem book_SameUint32s_calls (K : Nat) (x : TT [(0, .sl), (1, .sl)]) (w : World) (y : TR [.bool]) (w2 : World) (h : book_SameUint32s K x.1 x.2.1 w = some (y, w2)) : Calls prog 18 (encA [(0, .sl), (1, .sl)] x).toArray w (fun e w3 => e = .returned (resV (encR [.bool] y)) ∧ w3 = w2) :=
    mk_fun (O := tabL [([1, 1, 0, 1], book_SameUint32s_l0_se K)]) (Lp := [(0, .sl), (1, .sl)]) (Rt := [.bool]) (S := (fun x w => book_SameUint32s K x.1 x.2.1 w)) (book_SameUint32s_Eok K) (book_SameUint32s_Rok K) rfl book_SameUint32s_facts (Orc.cons (by kernel_rfl) (book_SameUint32s_l0_se_ok K [(0, 26)] (by kernel_rfl)) (Orc.nil _ _ _)) (fun _ _ => by kernel_rfl) x w y w2 h
noncomputable def book_SameUint32s_ce (K : Nat) : CE := funE [(0, .sl), (1, .sl)] [.bool] (fun x w => book_SameUint32s K x.1 x.2.1 w)
theorem book_SameUint32s_ok (K : Nat) : (book_SameUint32s_ce K).Ok prog 18 := funE_ok (Rt := [.bool]) (S := (fun x w => book_SameUint32s K x.1 x.2.1 w)) book_SameUint32s_facts fun x w y w2 h => book_SameUint32s_calls K x w y w2 h

noncomputable def ref02_Key_Rounds_R : List (Nat × RE) := []
theorem ref02_Key_Rounds_Rok : REnv.Ok prog (tab (ref02_Key_Rounds_R)) := (REnv.nil _)
/-- (*coffer/cofferref02.Key).Rounds -/
noncomputable def ref02_Key_Rounds (k0 : Option Addr) (w : World) : Option (Int × Unit) :=
  (k0).bind fun p_1 =>
  (ldS (p_1.add 0) w).bind fun v_2 =>
  some ((IntKind.i64.wrap ((IntKind.i64.wrap (Int.tdiv ((v_2.len : Nat) : Int) 4)) + 6)), ())
theorem ref02_Key_Rounds_facts : FunFacts prog 20 f20 (bodyOf f20) [(0, .ptr)] [(0, 10)] := ⟨func20, by kernel_rfl, by kernel_rfl, by kernel_rfl, by kernel_rfl, by kernel_rfl⟩
theorem ref02_Key_Rounds_calls (x : TT [(0, .ptr)]) (w : World) (y : TR [.int .i64]) (h : ref02_Key_Rounds x.1 w = some y) : Calls prog 20 (encA [(0, .ptr)] x).toArray w (fun e w3 => e = .returned (resV (encR [.int .i64] y)) ∧ w3 = w) :=
    mk_funQ (O := tabL []) (Lp := [(0, .ptr)]) (Rt := [.int .i64]) (S := (fun x w => ref02_Key_Rounds x.1 w)) (ref02_Key_Rounds_Rok) ref02_Key_Rounds_facts (OrcQ.nil _ _ _) (fun _ _ => by kernel_rfl) x w y h
noncomputable def ref02_Key_Rounds_re : RE := funR [(0, .ptr)] [.int .i64] (fun x w => ref02_Key_Rounds x.1 w)
theorem ref02_Key_Rounds_ok : (ref02_Key_Rounds_re).Ok prog 20 := funR_ok (Rt := [.int .i64]) (S := (fun x w => ref02_Key_Rounds x.1 w)) ref02_Key_Rounds_facts fun x w y h => ref02_Key_Rounds_calls x w y h

noncomputable def book_SpoilUint32s_E (K : Nat) : List (Nat × CE) := []
theorem book_SpoilUint32s_Eok (K : Nat) : Env.Ok prog (tab (book_SpoilUint32s_E K)) := (Env.nil _)
noncomputable def book_SpoilUint32s_R (K : Nat) : List (Nat × RE) := []
theorem book_SpoilUint32s_Rok (K : Nat) : REnv.Ok prog (tab (book_SpoilUint32s_R K)) := (REnv.nil _)
noncomputable def book_SpoilUint32s_l0_b (K : Nat) (rec : Sl → Int → World → Option ((Unit) × World)) (l0 : Sl) (i2 : Int) (w : World) : Option ((Unit) × World) :=
  if (decide (i2 < ((l0.len : Nat) : Int))) = true then ((l0.a).bind fun p_1 =>
  if (0 : Int) ≤ i2 ∧ i2 < ((l0.len : Nat) : Int) then ((ldI .u32 (p_1.add ((Int.toNat i2) * 1)) w).bind fun v_2 =>
  (l0.a).bind fun p_3 =>
  if (0 : Int) ≤ i2 ∧ i2 < ((l0.len : Nat) : Int) then ((stC (p_3.add ((Int.toNat i2) * 1)) (.int .u32 (bits .xor .u32 v_2 10855845)) w).bind fun w_4 =>
  rec l0 (IntKind.i64.wrap (i2 + 1)) w_4) else none) else none) else (some ((), w))
noncomputable def book_SpoilUint32s_l0 (K : Nat) (n : Nat) : Sl → Int → World → Option ((Unit) × World) := iter (fun _ _ _ => none) (book_SpoilUint32s_l0_b K) n
noncomputable def book_SpoilUint32s_l1_b (K : Nat) (rec : Sl → Int → World → Option ((Sl × Unit) × World)) (l0 : Sl) (i3 : Int) (w : World) : Option ((Sl × Unit) × World) :=
  if (decide (i3 < 70)) = true then (bnd (bldS prog 34 1 #[(0, (.int .u32 (IntKind.u32.wrap (IntKind.i64.wrap ((IntKind.i64.wrap (7 * i3)) + 3)))))] w) fun s_11 w_12 =>
  bnd (apd prog 34 34 (.slice l0.a l0.len l0.cap) (.slice s_11.a s_11.len s_11.cap) w_12) fun s_13 w_14 =>
  rec s_13 (IntKind.i64.wrap (i3 + 1)) w_14) else (some ((l0, ()), w))
noncomputable def book_SpoilUint32s_l1 (K : Nat) (n : Nat) : Sl → Int → World → Option ((Sl × Unit) × World) := iter (fun _ _ _ => none) (book_SpoilUint32s_l1_b K) n
/-- coffer/cofferbook.SpoilUint32s -/
noncomputable def book_SpoilUint32s (K : Nat) (l0 : Sl) (w : World) : Option ((Unit) × World) :=
  bnd (book_SpoilUint32s_l0 K K l0 0 w) fun y_5 w_6 =>
  bnd (bldS prog 34 1 #[(0, (.int .u32 1))] w_6) fun s_7 w_8 =>
  bnd (apd prog 34 34 (.slice l0.a l0.len l0.cap) (.slice s_7.a s_7.len s_7.cap) w_8) fun s_9 w_10 =>
  bnd (book_SpoilUint32s_l1 K K s_9 0 w_10) fun y_15 w_16 =>
  (y_15.1.a).bind fun p_17 =>
  if (0 : Int) ≤ (IntKind.i64.wrap (((y_15.1.len : Nat) : Int) - 1)) ∧ (IntKind.i64.wrap (((y_15.1.len : Nat) : Int) - 1)) < ((y_15.1.len : Nat) : Int) then ((stC (p_17.add ((Int.toNat (IntKind.i64.wrap (((y_15.1.len : Nat) : Int) - 1))) * 1)) (.int .u32 77) w_16).bind fun w_18 =>
  some ((), w_18)) else none
theorem book_SpoilUint32s_l0_ok (K : Nat) (n : Nat) : StmtNOk prog [(0, .sl), (2, .int .i64)] [] [(2, 3), (4, 18)] ((fun n x w => book_SpoilUint32s_l0 K n x.1 x.2.1 w) n) (.block 0 (.loop (cd (bodyOf f21) [0, 1, 0, 0]))) :=
    mk_loopN (O := tabL []) (root := (bodyOf f21)) (π := [0, 1, 0, 0]) (id := 0) (Li := [(0, .sl), (2, .int .i64)]) (Lo := []) (S := (fun n x w => book_SpoilUint32s_l0 K n x.1 x.2.1 w)) (body := cd (bodyOf f21) [0, 1, 0, 0]) (book_SpoilUint32s_Eok K) (book_SpoilUint32s_Rok K) rfl (Orc.nil _ _ _) (by kernel_rfl) (fun _ _ => by kernel_rfl) (fun _ _ _ => by kernel_rfl) n
noncomputable def book_SpoilUint32s_l0_se (K : Nat) : SE := stmtN [(0, .sl), (2, .int .i64)] [] [(2, 3), (4, 18)] (fun x w => book_SpoilUint32s_l0 K K x.1 x.2.1 w)
theorem book_SpoilUint32s_l0_se_ok (K : Nat) (R : Rg) (h : subRB [(2, 3), (4, 18)] R = true) : (book_SpoilUint32s_l0_se K).Ok prog R (.block 0 (.loop (cd (bodyOf f21) [0, 1, 0, 0]))) := stmtN_ok (Li := [(0, .sl), (2, .int .i64)]) (Lo := []) (S := (fun x w => book_SpoilUint32s_l0 K K x.1 x.2.1 w)) (book_SpoilUint32s_l0_ok K K) (subR_of h)
theorem book_SpoilUint32s_l1_ok (K : Nat) (n : Nat) : StmtNOk prog [(0, .sl), (3, .int .i64)] [(0, .sl)] [(0, 1), (3, 4), (21, 32)] ((fun n x w => book_SpoilUint32s_l1 K n x.1 x.2.1 w) n) (.block 2 (.loop (cd (bodyOf f21) [1, 1, 0, 1, 0, 0]))) :=
    mk_loopN (O := tabL []) (root := (bodyOf f21)) (π := [1, 1, 0, 1, 0, 0]) (id := 2) (Li := [(0, .sl), (3, .int .i64)]) (Lo := [(0, .sl)]) (S := (fun n x w => book_SpoilUint32s_l1 K n x.1 x.2.1 w)) (body := cd (bodyOf f21) [1, 1, 0, 1, 0, 0]) (book_SpoilUint32s_Eok K) (book_SpoilUint32s_Rok K) rfl (Orc.nil _ _ _) (by kernel_rfl) (fun _ _ => by kernel_rfl) (fun _ _ _ => by kernel_rfl) n
noncomputable def book_SpoilUint32s_l1_se (K : Nat) : SE := stmtN [(0, .sl), (3, .int .i64)] [(0, .sl)] [(0, 1), (3, 4), (21, 32)] (fun x w => book_SpoilUint32s_l1 K K x.1 x.2.1 w)
theorem book_SpoilUint32s_l1_se_ok (K : Nat) (R : Rg) (h : subRB [(0, 1), (3, 4), (21, 32)] R = true) : (book_SpoilUint32s_l1_se K).Ok prog R (.block 2 (.loop (cd (bodyOf f21) [1, 1, 0, 1, 0, 0]))) := stmtN_ok (Li := [(0, .sl), (3, .int .i64)]) (Lo := [(0, .sl)]) (S := (fun x w => book_SpoilUint32s_l1 K K x.1 x.2.1 w)) (book_SpoilUint32s_l1_ok K K) (subR_of h)
theorem book_SpoilUint32s_facts : FunFacts prog 21 f21 (bodyOf f21) [(0, .sl)] [(0, 37)] := ⟨func21, by kernel_rfl, by kernel_rfl, by kernel_rfl, by kernel_rfl, by kernel_rfl⟩
theorem book_SpoilUint32s_calls (K : Nat) (x : TT [(0, .sl)]) (w : World) (y : TR []) (w2 : World) (h : book_SpoilUint32s K x.1 w = some (y, w2)) : Calls prog 21 (encA [(0, .sl)] x).toArray w (fun e w3 => e = .returned (resV (encR [] y)) ∧ w3 = w2) :=
    mk_fun (O := tabL [([0, 1], book_SpoilUint32s_l0_se K), ([1, 1, 0, 1], book_SpoilUint32s_l1_se K)]) (Lp := [(0, .sl)]) (Rt := []) (S := (fun x w => book_SpoilUint32s K x.1 w)) (book_SpoilUint32s_Eok K) (book_SpoilUint32s_Rok K) rfl book_SpoilUint32s_facts (Orc.cons (by kernel_rfl) (book_SpoilUint32s_l0_se_ok K [(0, 37)] (by kernel_rfl)) (Orc.cons (by kernel_rfl) (book_SpoilUint32s_l1_se_ok K [(0, 37)] (by kernel_rfl)) (Orc.nil _ _ _))) (fun _ _ => by kernel_rfl) x w y w2 h
noncomputable def book_SpoilUint32s_ce (K : Nat) : CE := funE [(0, .sl)] [] (fun x w => book_SpoilUint32s K x.1 w)
theorem book_SpoilUint32s_ok (K : Nat) : (book_SpoilUint32s_ce K).Ok prog 21 := funE_ok (Rt := []) (S := (fun x w => book_SpoilUint32s K x.1 w)) book_SpoilUint32s_facts fun x w y w2 h => book_SpoilUint32s_calls K x w y w2 h

noncomputable def law02_RijndaelKeys_E (K : Nat) : List (Nat × CE) := [(9, book_Bytes_ce K), (10, rijndael_New_ce K), (11, ref02_New_ce K), (13, book_WholeBytes_ce K), (14, rijndael_Key_Size_ce), (15, rijndael_Key_Rounds_ce), (16, rijndael_Key_Words_ce), (17, book_SpoilBytes_ce K), (19, ref02_Key_Words_ce K), (18, book_SameUint32s_ce K), (21, book_SpoilUint32s_ce K)]
theorem law02_RijndaelKeys_Eok (K : Nat) : Env.Ok prog (tab (law02_RijndaelKeys_E K)) := (Env.cons (book_Bytes_ok K) (Env.cons (rijndael_New_ok K) (Env.cons (ref02_New_ok K) (Env.cons (book_WholeBytes_ok K) (Env.cons (rijndael_Key_Size_ok) (Env.cons (rijndael_Key_Rounds_ok) (Env.cons (rijndael_Key_Words_ok) (Env.cons (book_SpoilBytes_ok K) (Env.cons (ref02_Key_Words_ok K) (Env.cons (book_SameUint32s_ok K) (Env.cons (book_SpoilUint32s_ok K) (Env.nil _))))))))))))
noncomputable def law02_RijndaelKeys_R (K : Nat) : List (Nat × RE) := [(12, law02_num_re), (20, ref02_Key_Rounds_re)]
theorem law02_RijndaelKeys_Rok (K : Nat) : REnv.Ok prog (tab (law02_RijndaelKeys_R K)) := (REnv.cons (law02_num_ok) (REnv.cons (ref02_Key_Rounds_ok) (REnv.nil _)))
noncomputable def law02_RijndaelKeys_s0 (K : Nat) (key0 : Sl) (own3 : Sl) (k4 : Option Addr) (e5 : Int) (r6 : Option Addr) (f7 : Int) (w : World) : Option ((Bool × Unit) × World) :=
  (law02_num e5).bind fun r_7 =>
  if (r_7.1 != f7) = true then (some ((true, ()), w)) else (if (!(k4.isNone == r6.isNone)) = true then (some ((true, ()), w)) else (bnd (book_WholeBytes K own3 key0 w) fun r_8 w_9 =>
  some (((!r_8.1), ()), w_9)))
noncomputable def law02_RijndaelKeys_s1 (K : Nat) (a2 : Bool) (k4 : Option Addr) (w : World) : Option ((Bool × Unit) × World) :=
  bnd (rijndael_Key_Size k4 w) fun r_12 w_13 =>
  if (r_12.1 == 0) = true then (bnd (rijndael_Key_Rounds k4 w_13) fun r_14 w_15 =>
  if (r_14.1 == 0) = true then (bnd (rijndael_Key_Words k4 w_15) fun r_16 w_17 =>
  some (((((r_16.1.len : Nat) : Int) == 0), ()), w_17)) else (some ((false, ()), w_15))) else (some ((false, ()), w_13))
noncomputable def law02_RijndaelKeys_s2 (K : Nat) (key0 : Sl) (k4 : Option Addr) (r6 : Option Addr) (a8 : Sl) (w : World) : Option ((Bool × Unit) × World) :=
  bnd (ref02_Key_Words K r6 w) fun r_26 w_27 =>
  bnd (book_SameUint32s K a8 r_26.1 w_27) fun r_28 w_29 =>
  if (!r_28.1) = true then (some ((true, ()), w_29)) else (bnd (rijndael_Key_Size k4 w_29) fun r_30 w_31 =>
  if (r_30.1 != ((key0.len : Nat) : Int)) = true then (some ((true, ()), w_31)) else (bnd (rijndael_Key_Rounds k4 w_31) fun r_32 w_33 =>
  (ref02_Key_Rounds r6 w_33).bind fun r_34 =>
  some (((r_32.1 != r_34.1), ()), w_33)))
/-- coffer/cofferlaw02.RijndaelKeys -/
noncomputable def law02_RijndaelKeys (K : Nat) (key0 : Sl) (w : World) : Option ((Bool × Unit) × World) :=
  bnd (book_Bytes K key0 w) fun r_1 w_2 =>
  bnd (rijndael_New K r_1.1 w_2) fun r_3 w_4 =>
  bnd (ref02_New K key0 w_4) fun r_5 w_6 =>
  bnd (law02_RijndaelKeys_s0 K key0 r_1.1 r_3.1 r_3.2.1 r_5.1 r_5.2.1 w_6) fun y_10 w_11 =>
  if y_10.1 = true then (some ((false, ()), w_11)) else (if r_5.1.isNone = true then (bnd (law02_RijndaelKeys_s1 K false r_3.1 w_11) fun y_18 w_19 =>
  some ((y_18.1, ()), w_19)) else (bnd (book_SpoilBytes K r_1.1 w_11) fun r_20 w_21 =>
  bnd (rijndael_Key_Words r_3.1 w_21) fun r_22 w_23 =>
  bnd (rijndael_Key_Words r_3.1 w_23) fun r_24 w_25 =>
  bnd (law02_RijndaelKeys_s2 K key0 r_3.1 r_5.1 r_22.1 w_25) fun y_35 w_36 =>
  if y_35.1 = true then (some ((false, ()), w_36)) else (bnd (book_SpoilUint32s K r_22.1 w_36) fun r_37 w_38 =>
  bnd (ref02_Key_Words K r_5.1 w_38) fun r_39 w_40 =>
  bnd (book_SameUint32s K r_24.1 r_39.1 w_40) fun r_41 w_42 =>
  if r_41.1 = true then (bnd (rijndael_Key_Words r_3.1 w_42) fun r_43 w_44 =>
  bnd (ref02_Key_Words K r_5.1 w_44) fun r_45 w_46 =>
  bnd (book_SameUint32s K r_43.1 r_45.1 w_46) fun r_47 w_48 =>
  some ((r_47.1, ()), w_48)) else (some ((false, ()), w_42)))))
theorem law02_RijndaelKeys_s0_ok (K : Nat) : StmtNOk prog [(0, .sl), (3, .sl), (4, .ptr), (5, .int .i64), (6, .ptr), (7, .int .i64)] [(38, .bool)] [(22, 39)] (fun x w => law02_RijndaelKeys_s0 K x.1 x.2.1 x.2.2.1 x.2.2.2.1 x.2.2.2.2.1 x.2.2.2.2.2.1 w) (cd (bodyOf f3) [1, 1, 1, 1, 0, 0]) :=
    mk_stmtN (O := tabL []) (root := (bodyOf f3)) (π := [1, 1, 1, 1, 0, 0]) (Li := [(0, .sl), (3, .sl), (4, .ptr), (5, .int .i64), (6, .ptr), (7, .int .i64)]) (Lo := [(38, .bool)]) (S := (fun x w => law02_RijndaelKeys_s0 K x.1 x.2.1 x.2.2.1 x.2.2.2.1 x.2.2.2.2.1 x.2.2.2.2.2.1 w)) (law02_RijndaelKeys_Eok K) (law02_RijndaelKeys_Rok K) rfl (Orc.nil _ _ _) (by kernel_rfl) (fun _ _ => by kernel_rfl)
noncomputable def law02_RijndaelKeys_s0_se (K : Nat) : SE := stmtN [(0, .sl), (3, .sl), (4, .ptr), (5, .int .i64), (6, .ptr), (7, .int .i64)] [(38, .bool)] [(22, 39)] (fun x w => law02_RijndaelKeys_s0 K x.1 x.2.1 x.2.2.1 x.2.2.2.1 x.2.2.2.2.1 x.2.2.2.2.2.1 w)
theorem law02_RijndaelKeys_s0_se_ok (K : Nat) (R : Rg) (h : subRB [(22, 39)] R = true) : (law02_RijndaelKeys_s0_se K).Ok prog R (cd (bodyOf f3) [1, 1, 1, 1, 0, 0]) := stmtN_ok (Li := [(0, .sl), (3, .sl), (4, .ptr), (5, .int .i64), (6, .ptr), (7, .int .i64)]) (Lo := [(38, .bool)]) (S := (fun x w => law02_RijndaelKeys_s0 K x.1 x.2.1 x.2.2.1 x.2.2.2.1 x.2.2.2.2.1 x.2.2.2.2.2.1 w)) (law02_RijndaelKeys_s0_ok K) (subR_of h)
theorem law02_RijndaelKeys_s1_ok (K : Nat) : StmtNOk prog [(2, .bool), (4, .ptr)] [(2, .bool)] [(2, 3), (41, 55)] (fun x w => law02_RijndaelKeys_s1 K x.1 x.2.1 w) (cd (bodyOf f3) [1, 1, 1, 1, 1, 0, 1, 0, 0]) :=
    mk_stmtN (O := tabL []) (root := (bodyOf f3)) (π := [1, 1, 1, 1, 1, 0, 1, 0, 0]) (Li := [(2, .bool), (4, .ptr)]) (Lo := [(2, .bool)]) (S := (fun x w => law02_RijndaelKeys_s1 K x.1 x.2.1 w)) (law02_RijndaelKeys_Eok K) (law02_RijndaelKeys_Rok K) rfl (Orc.nil _ _ _) (by kernel_rfl) (fun _ _ => by kernel_rfl)
noncomputable def law02_RijndaelKeys_s1_se (K : Nat) : SE := stmtN [(2, .bool), (4, .ptr)] [(2, .bool)] [(2, 3), (41, 55)] (fun x w => law02_RijndaelKeys_s1 K x.1 x.2.1 w)
theorem law02_RijndaelKeys_s1_se_ok (K : Nat) (R : Rg) (h : subRB [(2, 3), (41, 55)] R = true) : (law02_RijndaelKeys_s1_se K).Ok prog R (cd (bodyOf f3) [1, 1, 1, 1, 1, 0, 1, 0, 0]) := stmtN_ok (Li := [(2, .bool), (4, .ptr)]) (Lo := [(2, .bool)]) (S := (fun x w => law02_RijndaelKeys_s1 K x.1 x.2.1 w)) (law02_RijndaelKeys_s1_ok K) (subR_of h)
theorem law02_RijndaelKeys_s2_ok (K : Nat) : StmtNOk prog [(0, .sl), (4, .ptr), (6, .ptr), (8, .sl)] [(79, .bool)] [(61, 80)] (fun x w => law02_RijndaelKeys_s2 K x.1 x.2.1 x.2.2.1 x.2.2.2.1 w) (cd (bodyOf f3) [1, 1, 1, 1, 1, 1, 1, 1, 1, 0, 0]) :=
    mk_stmtN (O := tabL []) (root := (bodyOf f3)) (π := [1, 1, 1, 1, 1, 1, 1, 1, 1, 0, 0]) (Li := [(0, .sl), (4, .ptr), (6, .ptr), (8, .sl)]) (Lo := [(79, .bool)]) (S := (fun x w => law02_RijndaelKeys_s2 K x.1 x.2.1 x.2.2.1 x.2.2.2.1 w)) (law02_RijndaelKeys_Eok K) (law02_RijndaelKeys_Rok K) rfl (Orc.nil _ _ _) (by kernel_rfl) (fun _ _ => by kernel_rfl)
noncomputable def law02_RijndaelKeys_s2_se (K : Nat) : SE := stmtN [(0, .sl), (4, .ptr), (6, .ptr), (8, .sl)] [(79, .bool)] [(61, 80)] (fun x w => law02_RijndaelKeys_s2 K x.1 x.2.1 x.2.2.1 x.2.2.2.1 w)
theorem law02_RijndaelKeys_s2_se_ok (K : Nat) (R : Rg) (h : subRB [(61, 80)] R = true) : (law02_RijndaelKeys_s2_se K).Ok prog R (cd (bodyOf f3) [1, 1, 1, 1, 1, 1, 1, 1, 1, 0, 0]) := stmtN_ok (Li := [(0, .sl), (4, .ptr), (6, .ptr), (8, .sl)]) (Lo := [(79, .bool)]) (S := (fun x w => law02_RijndaelKeys_s2 K x.1 x.2.1 x.2.2.1 x.2.2.2.1 w)) (law02_RijndaelKeys_s2_ok K) (subR_of h)
theorem law02_RijndaelKeys_facts : FunFacts prog 3 f3 (bodyOf f3) [(0, .sl)] [(0, 93)] := ⟨func3, by kernel_rfl, by kernel_rfl, by kernel_rfl, by kernel_rfl, by kernel_rfl⟩
theorem law02_RijndaelKeys_calls (K : Nat) (x : TT [(0, .sl)]) (w : World) (y : TR [.bool]) (w2 : World) (h : law02_RijndaelKeys K x.1 w = some (y, w2)) : Calls prog 3 (encA [(0, .sl)] x).toArray w (fun e w3 => e = .returned (resV (encR [.bool] y)) ∧ w3 = w2) :=
    mk_fun (O := tabL [([1, 1, 1, 1, 0, 0], law02_RijndaelKeys_s0_se K), ([1, 1, 1, 1, 1, 0, 1, 0, 0], law02_RijndaelKeys_s1_se K), ([1, 1, 1, 1, 1, 1, 1, 1, 1, 0, 0], law02_RijndaelKeys_s2_se K)]) (Lp := [(0, .sl)]) (Rt := [.bool]) (S := (fun x w => law02_RijndaelKeys K x.1 w)) (law02_RijndaelKeys_Eok K) (law02_RijndaelKeys_Rok K) rfl law02_RijndaelKeys_facts (Orc.cons (by kernel_rfl) (law02_RijndaelKeys_s0_se_ok K [(0, 93)] (by kernel_rfl)) (Orc.cons (by kernel_rfl) (law02_RijndaelKeys_s1_se_ok K [(0, 93)] (by kernel_rfl)) (Orc.cons (by kernel_rfl) (law02_RijndaelKeys_s2_se_ok K [(0, 93)] (by kernel_rfl)) (Orc.nil _ _ _)))) (fun _ _ => by kernel_rfl) x w y w2 h
noncomputable def law02_RijndaelKeys_ce (K : Nat) : CE := funE [(0, .sl)] [.bool] (fun x w => law02_RijndaelKeys K x.1 w)
theorem law02_RijndaelKeys_ok (K : Nat) : (law02_RijndaelKeys_ce K).Ok prog 3 := funE_ok (Rt := [.bool]) (S := (fun x w => law02_RijndaelKeys K x.1 w)) law02_RijndaelKeys_facts fun x w y w2 h => law02_RijndaelKeys_calls K x w y w2 h

noncomputable def rijndael_load_E (K : Nat) : List (Nat × CE) := []
theorem rijndael_load_Eok (K : Nat) : Env.Ok prog (tab (rijndael_load_E K)) := (Env.nil _)
noncomputable def rijndael_load_R (K : Nat) : List (Nat × RE) := [(39, rijndael_number_re K)]
theorem rijndael_load_Rok (K : Nat) : REnv.Ok prog (tab (rijndael_load_R K)) := (REnv.cons (rijndael_number_ok K) (REnv.nil _))
noncomputable def rijndael_load_l0_b (K : Nat) (rec : Addr → Addr → Addr → Int → World → Option ((Unit) × World)) (b1 : Addr) (a2 : Addr) (s3 : Addr) (a5 : Int) (w : World) : Option ((Unit) × World) :=
  if (decide (a5 < 4)) = true then (if (0 : Int) ≤ (IntKind.i64.wrap (4 * a5)) ∧ (IntKind.i64.wrap (4 * a5)) ≤ ((16 : Nat) : Int) then ((rijndael_number K ⟨(sla (some b1) (Int.toNat ((IntKind.i64.wrap (4 * a5)))) 16 1), (16 - (Int.toNat ((IntKind.i64.wrap (4 * a5))))), (16 - (Int.toNat ((IntKind.i64.wrap (4 * a5)))))⟩ 4 w).bind fun r_7 =>
  if (0 : Int) ≤ a5 ∧ a5 < ((4 : Nat) : Int) then ((stC (s3.add ((Int.toNat a5) * 1)) (.int .u32 (IntKind.u32.wrap r_7.1)) w).bind fun w_8 =>
  rec b1 a2 s3 (IntKind.i64.wrap (a5 + 1)) w_8) else none) else none) else (some ((), w))
noncomputable def rijndael_load_l0 (K : Nat) (n : Nat) : Addr → Addr → Addr → Int → World → Option ((Unit) × World) := iter (fun _ _ _ _ _ => none) (rijndael_load_l0_b K) n
/-- coffer/rijndael.load -/
noncomputable def rijndael_load (K : Nat) (b0 : Array Value) (w : World) : Option (((Array Value) × Unit) × World) :=
  bnd (newB b0 42 w) fun p_1 w_2 =>
  bnd (newB z135 135 w_2) fun p_3 w_4 =>
  bnd (newB z135 135 w_4) fun s_5 w_6 =>
  bnd (rijndael_load_l0 K K p_1 p_3 s_5 0 w_6) fun y_9 w_10 =>
  (ldA 4 s_5 w_10).bind fun v_11 =>
  if (v_11).size = 4 then ((stA p_3 v_11 w_10).bind fun w_12 =>
  (ldA 4 p_3 w_12).bind fun res_13 =>
  some ((res_13, ()), w_12)) else none
theorem rijndael_load_l0_ok (K : Nat) (n : Nat) : StmtNOk prog [(1, .addr), (2, .addr), (3, .addr), (5, .int .i64)] [] [(4, 16)] ((fun n x w => rijndael_load_l0 K n x.1 x.2.1 x.2.2.1 x.2.2.2.1 w) n) (.block 0 (.loop (cd (bodyOf f68) [1, 1, 0, 1, 0, 0]))) :=
    mk_loopN (O := tabL []) (root := (bodyOf f68)) (π := [1, 1, 0, 1, 0, 0]) (id := 0) (Li := [(1, .addr), (2, .addr), (3, .addr), (5, .int .i64)]) (Lo := []) (S := (fun n x w => rijndael_load_l0 K n x.1 x.2.1 x.2.2.1 x.2.2.2.1 w)) (body := cd (bodyOf f68) [1, 1, 0, 1, 0, 0]) (rijndael_load_Eok K) (rijndael_load_Rok K) rfl (Orc.nil _ _ _) (by kernel_rfl) (fun _ _ => by kernel_rfl) (fun _ _ _ => by kernel_rfl) n
noncomputable def rijndael_load_l0_se (K : Nat) : SE := stmtN [(1, .addr), (2, .addr), (3, .addr), (5, .int .i64)] [] [(4, 16)] (fun x w => rijndael_load_l0 K K x.1 x.2.1 x.2.2.1 x.2.2.2.1 w)
theorem rijndael_load_l0_se_ok (K : Nat) (R : Rg) (h : subRB [(4, 16)] R = true) : (rijndael_load_l0_se K).Ok prog R (.block 0 (.loop (cd (bodyOf f68) [1, 1, 0, 1, 0, 0]))) := stmtN_ok (Li := [(1, .addr), (2, .addr), (3, .addr), (5, .int .i64)]) (Lo := []) (S := (fun x w => rijndael_load_l0 K K x.1 x.2.1 x.2.2.1 x.2.2.2.1 w)) (rijndael_load_l0_ok K K) (subR_of h)
theorem rijndael_load_facts : FunFacts prog 68 f68 (bodyOf f68) [(0, .agg)] [(0, 17)] := ⟨func68, by kernel_rfl, by kernel_rfl, by kernel_rfl, by kernel_rfl, by kernel_rfl⟩
theorem rijndael_load_calls (K : Nat) (x : TT [(0, .agg)]) (w : World) (y : TR [.agg]) (w2 : World) (h : rijndael_load K x.1 w = some (y, w2)) : Calls prog 68 (encA [(0, .agg)] x).toArray w (fun e w3 => e = .returned (resV (encR [.agg] y)) ∧ w3 = w2) :=
    mk_fun (O := tabL [([1, 1, 0, 1], rijndael_load_l0_se K)]) (Lp := [(0, .agg)]) (Rt := [.agg]) (S := (fun x w => rijndael_load K x.1 w)) (rijndael_load_Eok K) (rijndael_load_Rok K) rfl rijndael_load_facts (Orc.cons (by kernel_rfl) (rijndael_load_l0_se_ok K [(0, 17)] (by kernel_rfl)) (Orc.nil _ _ _)) (fun _ _ => by kernel_rfl) x w y w2 h
noncomputable def rijndael_load_ce (K : Nat) : CE := funE [(0, .agg)] [.agg] (fun x w => rijndael_load K x.1 w)
theorem rijndael_load_ok (K : Nat) : (rijndael_load_ce K).Ok prog 68 := funE_ok (Rt := [.agg]) (S := (fun x w => rijndael_load K x.1 w)) rijndael_load_facts fun x w y w2 h => rijndael_load_calls K x w y w2 h

end Go.Sh

/- What functions of the program do, as Lean functions; that the machine does just that. Printed by shal.py, a program of this claim's writer. -/
set_option maxRecDepth 100000
set_option linter.unusedVariables false
namespace Go.Sh
open Go.Fw Go.Proofs.Tryd

noncomputable def rijndael_through_E (K : Nat) : List (Nat × CE) := []
theorem rijndael_through_Eok (K : Nat) : Env.Ok prog (tab (rijndael_through_E K)) := (Env.nil _)
noncomputable def rijndael_through_R (K : Nat) : List (Nat × RE) := []
theorem rijndael_through_Rok (K : Nat) : REnv.Ok prog (tab (rijndael_through_R K)) := (REnv.nil _)
noncomputable def rijndael_through_l0_b (K : Nat) (rec : Sl → Option Addr → Option Addr → Int → Addr → Addr → Int → World → Option ((Unit) × World)) (w1 : Sl) (t2 : Option Addr) (last3 : Option Addr) (step4 : Int) (s5 : Addr) (a10 : Addr) (a18 : Int) (w : World) : Option ((Unit) × World) :=
  if (decide (a18 < 4)) = true then (if (0 : Int) ≤ a18 ∧ a18 < ((4 : Nat) : Int) then ((w1.a).bind fun p_5 =>
  if (0 : Int) ≤ a18 ∧ a18 < ((w1.len : Nat) : Int) then ((ldI .u32 (s5.add ((Int.toNat a18) * 1)) w.drew).bind fun v_6 =>
  (ldI .u32 (p_5.add ((Int.toNat a18) * 1)) w.drew).bind fun v_7 =>
  if (0 : Int) ≤ a18 ∧ a18 < ((4 : Nat) : Int) then ((stC (s5.add ((Int.toNat a18) * 1)) (.int .u32 (bits .xor .u32 v_6 v_7)) w.drew).bind fun w_8 =>
  rec w1 t2 last3 step4 s5 a10 (IntKind.i64.wrap (a18 + 1)) w_8) else none) else none) else none) else (some ((), w))
noncomputable def rijndael_through_l0 (K : Nat) (n : Nat) : Sl → Option Addr → Option Addr → Int → Addr → Addr → Int → World → Option ((Unit) × World) := iter (fun _ _ _ _ _ _ _ _ => none) (rijndael_through_l0_b K) n
noncomputable def rijndael_through_l2_b (K : Nat) (rec : Sl → Option Addr → Option Addr → Int → Addr → Addr → Int → Int → Addr → Int → World → Option ((Unit) × World)) (w1 : Sl) (t2 : Option Addr) (last3 : Option Addr) (step4 : Int) (s5 : Addr) (a10 : Addr) (n12 : Int) (r13 : Int) (next14 : Addr) (a39 : Int) (w : World) : Option ((Unit) × World) :=
  if (decide (a39 < 4)) = true then (if (0 : Int) ≤ a39 ∧ a39 < ((4 : Nat) : Int) then ((t2).bind fun p_13 =>
  if (0 : Int) ≤ (Int.tmod (IntKind.i64.wrap (a39 + step4)) 4) ∧ (Int.tmod (IntKind.i64.wrap (a39 + step4)) 4) < ((4 : Nat) : Int) then ((t2).bind fun p_14 =>
  if (0 : Int) ≤ (Int.tmod (IntKind.i64.wrap (a39 + 2)) 4) ∧ (Int.tmod (IntKind.i64.wrap (a39 + 2)) 4) < ((4 : Nat) : Int) then ((t2).bind fun p_15 =>
  if (0 : Int) ≤ (Int.tmod (IntKind.i64.wrap (a39 + (IntKind.i64.wrap (3 * step4)))) 4) ∧ (Int.tmod (IntKind.i64.wrap (a39 + (IntKind.i64.wrap (3 * step4)))) 4) < ((4 : Nat) : Int) then ((t2).bind fun p_16 =>
  (w1.a).bind fun p_17 =>
  if (0 : Int) ≤ (IntKind.i64.wrap (r13 + a39)) ∧ (IntKind.i64.wrap (r13 + a39)) < ((w1.len : Nat) : Int) then ((ldI .u32 (s5.add ((Int.toNat a39) * 1)) w.drew).bind fun v_18 =>
  if (0 : Int) ≤ (Int.fdiv v_18 (2 ^ 24)) ∧ (Int.fdiv v_18 (2 ^ 24)) < ((256 : Nat) : Int) then ((ldI .u32 ((p_13.add (0 * 256)).add ((Int.toNat (Int.fdiv v_18 (2 ^ 24))) * 1)) w.drew).bind fun v_19 =>
  (ldI .u32 (s5.add ((Int.toNat (Int.tmod (IntKind.i64.wrap (a39 + step4)) 4)) * 1)) w.drew).bind fun v_20 =>
  if (0 : Int) ≤ (bits .and .u32 (Int.fdiv v_20 (2 ^ 16)) 255) ∧ (bits .and .u32 (Int.fdiv v_20 (2 ^ 16)) 255) < ((256 : Nat) : Int) then ((ldI .u32 ((p_14.add (1 * 256)).add ((Int.toNat (bits .and .u32 (Int.fdiv v_20 (2 ^ 16)) 255)) * 1)) w.drew).bind fun v_21 =>
  (ldI .u32 (s5.add ((Int.toNat (Int.tmod (IntKind.i64.wrap (a39 + 2)) 4)) * 1)) w.drew).bind fun v_22 =>
  if (0 : Int) ≤ (bits .and .u32 (Int.fdiv v_22 (2 ^ 8)) 255) ∧ (bits .and .u32 (Int.fdiv v_22 (2 ^ 8)) 255) < ((256 : Nat) : Int) then ((ldI .u32 ((p_15.add (2 * 256)).add ((Int.toNat (bits .and .u32 (Int.fdiv v_22 (2 ^ 8)) 255)) * 1)) w.drew).bind fun v_23 =>
  (ldI .u32 (s5.add ((Int.toNat (Int.tmod (IntKind.i64.wrap (a39 + (IntKind.i64.wrap (3 * step4)))) 4)) * 1)) w.drew).bind fun v_24 =>
  if (0 : Int) ≤ (bits .and .u32 v_24 255) ∧ (bits .and .u32 v_24 255) < ((256 : Nat) : Int) then ((ldI .u32 ((p_16.add (3 * 256)).add ((Int.toNat (bits .and .u32 v_24 255)) * 1)) w.drew).bind fun v_25 =>
  (ldI .u32 (p_17.add ((Int.toNat (IntKind.i64.wrap (r13 + a39))) * 1)) w.drew).bind fun v_26 =>
  if (0 : Int) ≤ a39 ∧ a39 < ((4 : Nat) : Int) then ((stC (next14.add ((Int.toNat a39) * 1)) (.int .u32 (bits .xor .u32 (bits .xor .u32 (bits .xor .u32 (bits .xor .u32 v_19 v_21) v_23) v_25) v_26)) w.drew).bind fun w_27 =>
  rec w1 t2 last3 step4 s5 a10 n12 r13 next14 (IntKind.i64.wrap (a39 + 1)) w_27) else none) else none) else none) else none) else none) else none) else none) else none) else none) else none) else (some ((), w))
noncomputable def rijndael_through_l2 (K : Nat) (n : Nat) : Sl → Option Addr → Option Addr → Int → Addr → Addr → Int → Int → Addr → Int → World → Option ((Unit) × World) := iter (fun _ _ _ _ _ _ _ _ _ _ _ => none) (rijndael_through_l2_b K) n
noncomputable def rijndael_through_l1_b (K : Nat) (rec : Sl → Option Addr → Option Addr → Int → Addr → Addr → Int → Int → World → Option ((Unit) × World)) (w1 : Sl) (t2 : Option Addr) (last3 : Option Addr) (step4 : Int) (s5 : Addr) (a10 : Addr) (n12 : Int) (r13 : Int) (w : World) : Option ((Unit) × World) :=
  if (decide (r13 < n12)) = true then (bnd (newB z135 135 w) fun next_11 w_12 =>
  bnd (rijndael_through_l2 K K w1 t2 last3 step4 s5 a10 n12 r13 next_11 0 w_12) fun y_28 w_29 =>
  (ldA 4 next_11 w_29).bind fun v_30 =>
  if (v_30).size = 4 then ((stA s5 v_30 w_29).bind fun w_31 =>
  rec w1 t2 last3 step4 s5 a10 n12 (IntKind.i64.wrap (r13 + 4)) w_31) else none) else (some ((), w))
noncomputable def rijndael_through_l1 (K : Nat) (n : Nat) : Sl → Option Addr → Option Addr → Int → Addr → Addr → Int → Int → World → Option ((Unit) × World) := iter (fun _ _ _ _ _ _ _ _ _ => none) (rijndael_through_l1_b K) n
noncomputable def rijndael_through_l3_b (K : Nat) (rec : Sl → Option Addr → Int → Addr → Addr → Int → Addr → Int → World → Option ((Unit) × World)) (w1 : Sl) (last3 : Option Addr) (step4 : Int) (s5 : Addr) (a10 : Addr) (n12 : Int) (out16 : Addr) (a103 : Int) (w : World) : Option ((Unit) × World) :=
  if (decide (a103 < 4)) = true then (if (0 : Int) ≤ a103 ∧ a103 < ((4 : Nat) : Int) then ((last3).bind fun p_36 =>
  if (0 : Int) ≤ (Int.tmod (IntKind.i64.wrap (a103 + step4)) 4) ∧ (Int.tmod (IntKind.i64.wrap (a103 + step4)) 4) < ((4 : Nat) : Int) then ((last3).bind fun p_37 =>
  if (0 : Int) ≤ (Int.tmod (IntKind.i64.wrap (a103 + 2)) 4) ∧ (Int.tmod (IntKind.i64.wrap (a103 + 2)) 4) < ((4 : Nat) : Int) then ((last3).bind fun p_38 =>
  if (0 : Int) ≤ (Int.tmod (IntKind.i64.wrap (a103 + (IntKind.i64.wrap (3 * step4)))) 4) ∧ (Int.tmod (IntKind.i64.wrap (a103 + (IntKind.i64.wrap (3 * step4)))) 4) < ((4 : Nat) : Int) then ((last3).bind fun p_39 =>
  (w1.a).bind fun p_40 =>
  if (0 : Int) ≤ (IntKind.i64.wrap (n12 + a103)) ∧ (IntKind.i64.wrap (n12 + a103)) < ((w1.len : Nat) : Int) then ((ldI .u32 (s5.add ((Int.toNat a103) * 1)) w.drew).bind fun v_41 =>
  if (0 : Int) ≤ (Int.fdiv v_41 (2 ^ 24)) ∧ (Int.fdiv v_41 (2 ^ 24)) < ((256 : Nat) : Int) then ((ldI .u8 (p_36.add ((Int.toNat (Int.fdiv v_41 (2 ^ 24))) * 1)) w.drew).bind fun v_42 =>
  (ldI .u32 (s5.add ((Int.toNat (Int.tmod (IntKind.i64.wrap (a103 + step4)) 4)) * 1)) w.drew).bind fun v_43 =>
  if (0 : Int) ≤ (bits .and .u32 (Int.fdiv v_43 (2 ^ 16)) 255) ∧ (bits .and .u32 (Int.fdiv v_43 (2 ^ 16)) 255) < ((256 : Nat) : Int) then ((ldI .u8 (p_37.add ((Int.toNat (bits .and .u32 (Int.fdiv v_43 (2 ^ 16)) 255)) * 1)) w.drew).bind fun v_44 =>
  (ldI .u32 (s5.add ((Int.toNat (Int.tmod (IntKind.i64.wrap (a103 + 2)) 4)) * 1)) w.drew).bind fun v_45 =>
  if (0 : Int) ≤ (bits .and .u32 (Int.fdiv v_45 (2 ^ 8)) 255) ∧ (bits .and .u32 (Int.fdiv v_45 (2 ^ 8)) 255) < ((256 : Nat) : Int) then ((ldI .u8 (p_38.add ((Int.toNat (bits .and .u32 (Int.fdiv v_45 (2 ^ 8)) 255)) * 1)) w.drew).bind fun v_46 =>
  (ldI .u32 (s5.add ((Int.toNat (Int.tmod (IntKind.i64.wrap (a103 + (IntKind.i64.wrap (3 * step4)))) 4)) * 1)) w.drew).bind fun v_47 =>
  if (0 : Int) ≤ (bits .and .u32 v_47 255) ∧ (bits .and .u32 v_47 255) < ((256 : Nat) : Int) then ((ldI .u8 (p_39.add ((Int.toNat (bits .and .u32 v_47 255)) * 1)) w.drew).bind fun v_48 =>
  (ldI .u32 (p_40.add ((Int.toNat (IntKind.i64.wrap (n12 + a103))) * 1)) w.drew).bind fun v_49 =>
  if (0 : Int) ≤ a103 ∧ a103 < ((4 : Nat) : Int) then ((stC (out16.add ((Int.toNat a103) * 1)) (.int .u32 (bits .xor .u32 (bits .or .u32 (bits .or .u32 (bits .or .u32 (IntKind.u32.wrap ((IntKind.u32.wrap v_42) * 2 ^ 24)) (IntKind.u32.wrap ((IntKind.u32.wrap v_44) * 2 ^ 16))) (IntKind.u32.wrap ((IntKind.u32.wrap v_46) * 2 ^ 8))) (IntKind.u32.wrap v_48)) v_49)) w.drew).bind fun w_50 =>
  rec w1 last3 step4 s5 a10 n12 out16 (IntKind.i64.wrap (a103 + 1)) w_50) else none) else none) else none) else none) else none) else none) else none) else none) else none) else none) else (some ((), w))
noncomputable def rijndael_through_l3 (K : Nat) (n : Nat) : Sl → Option Addr → Int → Addr → Addr → Int → Addr → Int → World → Option ((Unit) × World) := iter (fun _ _ _ _ _ _ _ _ _ => none) (rijndael_through_l3_b K) n
/-- coffer/rijndael.through -/
noncomputable def rijndael_through (K : Nat) (s0 : Array Value) (w1 : Sl) (t2 : Option Addr) (last3 : Option Addr) (step4 : Int) (w : World) : Option (((Array Value) × Unit) × World) :=
  bnd (newB s0 135 w) fun p_1 w_2 =>
  bnd (newB z135 135 w_2) fun p_3 w_4 =>
  bnd (rijndael_through_l0 K K w1 t2 last3 step4 p_1 p_3 0 w_4) fun y_9 w_10 =>
  bnd (rijndael_through_l1 K K w1 t2 last3 step4 p_1 p_3 (IntKind.i64.wrap (((w1.len : Nat) : Int) - 4)) 4 w_10) fun y_32 w_33 =>
  bnd (newB z135 135 w_33) fun out_34 w_35 =>
  bnd (rijndael_through_l3 K K w1 last3 step4 p_1 p_3 (IntKind.i64.wrap (((w1.len : Nat) : Int) - 4)) out_34 0 w_35) fun y_51 w_52 =>
  (ldA 4 out_34 w_52).bind fun v_53 =>
  if (v_53).size = 4 then ((stA p_3 v_53 w_52).bind fun w_54 =>
  (ldA 4 p_3 w_54).bind fun res_55 =>
  some ((res_55, ()), w_54)) else none
theorem rijndael_through_l0_ok (K : Nat) (n : Nat) : StmtNOk prog [(1, .sl), (2, .ptr), (3, .ptr), (4, .int .i64), (5, .addr), (10, .addr), (18, .int .i64)] [] [(11, 12), (18, 31)] ((fun n x w => rijndael_through_l0 K n x.1 x.2.1 x.2.2.1 x.2.2.2.1 x.2.2.2.2.1 x.2.2.2.2.2.1 x.2.2.2.2.2.2.1 w) n) (.block 0 (.loop (cd (bodyOf f67) [1, 0, 1, 0, 0]))) :=
    mk_loopN (O := tabL []) (root := (bodyOf f67)) (π := [1, 0, 1, 0, 0]) (id := 0) (Li := [(1, .sl), (2, .ptr), (3, .ptr), (4, .int .i64), (5, .addr), (10, .addr), (18, .int .i64)]) (Lo := []) (S := (fun n x w => rijndael_through_l0 K n x.1 x.2.1 x.2.2.1 x.2.2.2.1 x.2.2.2.2.1 x.2.2.2.2.2.1 x.2.2.2.2.2.2.1 w)) (body := cd (bodyOf f67) [1, 0, 1, 0, 0]) (rijndael_through_Eok K) (rijndael_through_Rok K) rfl (Orc.nil _ _ _) (by kernel_rfl) (fun _ _ => by kernel_rfl) (fun _ _ _ => by kernel_rfl) n
noncomputable def rijndael_through_l0_se (K : Nat) : SE := stmtN [(1, .sl), (2, .ptr), (3, .ptr), (4, .int .i64), (5, .addr), (10, .addr), (18, .int .i64)] [] [(11, 12), (18, 31)] (fun x w => rijndael_through_l0 K K x.1 x.2.1 x.2.2.1 x.2.2.2.1 x.2.2.2.2.1 x.2.2.2.2.2.1 x.2.2.2.2.2.2.1 w)
theorem rijndael_through_l0_se_ok (K : Nat) (R : Rg) (h : subRB [(11, 12), (18, 31)] R = true) : (rijndael_through_l0_se K).Ok prog R (.block 0 (.loop (cd (bodyOf f67) [1, 0, 1, 0, 0]))) := stmtN_ok (Li := [(1, .sl), (2, .ptr), (3, .ptr), (4, .int .i64), (5, .addr), (10, .addr), (18, .int .i64)]) (Lo := []) (S := (fun x w => rijndael_through_l0 K K x.1 x.2.1 x.2.2.1 x.2.2.2.1 x.2.2.2.2.1 x.2.2.2.2.2.1 x.2.2.2.2.2.2.1 w)) (rijndael_through_l0_ok K K) (subR_of h)
theorem rijndael_through_l2_ok (K : Nat) (n : Nat) : StmtNOk prog [(1, .sl), (2, .ptr), (3, .ptr), (4, .int .i64), (5, .addr), (10, .addr), (12, .int .i64), (13, .int .i64), (14, .addr), (39, .int .i64)] [] [(15, 16), (39, 102)] ((fun n x w => rijndael_through_l2 K n x.1 x.2.1 x.2.2.1 x.2.2.2.1 x.2.2.2.2.1 x.2.2.2.2.2.1 x.2.2.2.2.2.2.1 x.2.2.2.2.2.2.2.1 x.2.2.2.2.2.2.2.2.1 x.2.2.2.2.2.2.2.2.2.1 w) n) (.block 4 (.loop (cd (bodyOf f67) [1, 1, 1, 0, 1, 0, 0, 1, 0, 0, 1, 0, 1, 0, 0]))) :=
    mk_loopN (O := tabL []) (root := (bodyOf f67)) (π := [1, 1, 1, 0, 1, 0, 0, 1, 0, 0, 1, 0, 1, 0, 0]) (id := 4) (Li := [(1, .sl), (2, .ptr), (3, .ptr), (4, .int .i64), (5, .addr), (10, .addr), (12, .int .i64), (13, .int .i64), (14, .addr), (39, .int .i64)]) (Lo := []) (S := (fun n x w => rijndael_through_l2 K n x.1 x.2.1 x.2.2.1 x.2.2.2.1 x.2.2.2.2.1 x.2.2.2.2.2.1 x.2.2.2.2.2.2.1 x.2.2.2.2.2.2.2.1 x.2.2.2.2.2.2.2.2.1 x.2.2.2.2.2.2.2.2.2.1 w)) (body := cd (bodyOf f67) [1, 1, 1, 0, 1, 0, 0, 1, 0, 0, 1, 0, 1, 0, 0]) (rijndael_through_Eok K) (rijndael_through_Rok K) rfl (Orc.nil _ _ _) (by kernel_rfl) (fun _ _ => by kernel_rfl) (fun _ _ _ => by kernel_rfl) n
noncomputable def rijndael_through_l2_se (K : Nat) : SE := stmtN [(1, .sl), (2, .ptr), (3, .ptr), (4, .int .i64), (5, .addr), (10, .addr), (12, .int .i64), (13, .int .i64), (14, .addr), (39, .int .i64)] [] [(15, 16), (39, 102)] (fun x w => rijndael_through_l2 K K x.1 x.2.1 x.2.2.1 x.2.2.2.1 x.2.2.2.2.1 x.2.2.2.2.2.1 x.2.2.2.2.2.2.1 x.2.2.2.2.2.2.2.1 x.2.2.2.2.2.2.2.2.1 x.2.2.2.2.2.2.2.2.2.1 w)
theorem rijndael_through_l2_se_ok (K : Nat) (R : Rg) (h : subRB [(15, 16), (39, 102)] R = true) : (rijndael_through_l2_se K).Ok prog R (.block 4 (.loop (cd (bodyOf f67) [1, 1, 1, 0, 1, 0, 0, 1, 0, 0, 1, 0, 1, 0, 0]))) := stmtN_ok (Li := [(1, .sl), (2, .ptr), (3, .ptr), (4, .int .i64), (5, .addr), (10, .addr), (12, .int .i64), (13, .int .i64), (14, .addr), (39, .int .i64)]) (Lo := []) (S := (fun x w => rijndael_through_l2 K K x.1 x.2.1 x.2.2.1 x.2.2.2.1 x.2.2.2.2.1 x.2.2.2.2.2.1 x.2.2.2.2.2.2.1 x.2.2.2.2.2.2.2.1 x.2.2.2.2.2.2.2.2.1 x.2.2.2.2.2.2.2.2.2.1 w)) (rijndael_through_l2_ok K K) (subR_of h)
theorem rijndael_through_l1_ok (K : Nat) (n : Nat) : StmtNOk prog [(1, .sl), (2, .ptr), (3, .ptr), (4, .int .i64), (5, .addr), (10, .addr), (12, .int .i64), (13, .int .i64)] [] [(13, 16), (34, 103)] ((fun n x w => rijndael_through_l1 K n x.1 x.2.1 x.2.2.1 x.2.2.2.1 x.2.2.2.2.1 x.2.2.2.2.2.1 x.2.2.2.2.2.2.1 x.2.2.2.2.2.2.2.1 w) n) (.block 2 (.loop (cd (bodyOf f67) [1, 1, 1, 0, 1, 0, 0]))) :=
    mk_loopN (O := tabL [([1, 1, 1, 0, 1, 0, 0, 1, 0, 0, 1, 0, 1], rijndael_through_l2_se K)]) (root := (bodyOf f67)) (π := [1, 1, 1, 0, 1, 0, 0]) (id := 2) (Li := [(1, .sl), (2, .ptr), (3, .ptr), (4, .int .i64), (5, .addr), (10, .addr), (12, .int .i64), (13, .int .i64)]) (Lo := []) (S := (fun n x w => rijndael_through_l1 K n x.1 x.2.1 x.2.2.1 x.2.2.2.1 x.2.2.2.2.1 x.2.2.2.2.2.1 x.2.2.2.2.2.2.1 x.2.2.2.2.2.2.2.1 w)) (body := cd (bodyOf f67) [1, 1, 1, 0, 1, 0, 0]) (rijndael_through_Eok K) (rijndael_through_Rok K) rfl (Orc.cons (by kernel_rfl) (rijndael_through_l2_se_ok K [(13, 16), (34, 103)] (by kernel_rfl)) (Orc.nil _ _ _)) (by kernel_rfl) (fun _ _ => by kernel_rfl) (fun _ _ _ => by kernel_rfl) n
noncomputable def rijndael_through_l1_se (K : Nat) : SE := stmtN [(1, .sl), (2, .ptr), (3, .ptr), (4, .int .i64), (5, .addr), (10, .addr), (12, .int .i64), (13, .int .i64)] [] [(13, 16), (34, 103)] (fun x w => rijndael_through_l1 K K x.1 x.2.1 x.2.2.1 x.2.2.2.1 x.2.2.2.2.1 x.2.2.2.2.2.1 x.2.2.2.2.2.2.1 x.2.2.2.2.2.2.2.1 w)
theorem rijndael_through_l1_se_ok (K : Nat) (R : Rg) (h : subRB [(13, 16), (34, 103)] R = true) : (rijndael_through_l1_se K).Ok prog R (.block 2 (.loop (cd (bodyOf f67) [1, 1, 1, 0, 1, 0, 0]))) := stmtN_ok (Li := [(1, .sl), (2, .ptr), (3, .ptr), (4, .int .i64), (5, .addr), (10, .addr), (12, .int .i64), (13, .int .i64)]) (Lo := []) (S := (fun x w => rijndael_through_l1 K K x.1 x.2.1 x.2.2.1 x.2.2.2.1 x.2.2.2.2.1 x.2.2.2.2.2.1 x.2.2.2.2.2.2.1 x.2.2.2.2.2.2.2.1 w)) (rijndael_through_l1_ok K K) (subR_of h)
theorem rijndael_through_l3_ok (K : Nat) (n : Nat) : StmtNOk prog [(1, .sl), (3, .ptr), (4, .int .i64), (5, .addr), (10, .addr), (12, .int .i64), (16, .addr), (103, .int .i64)] [] [(17, 18), (103, 169)] ((fun n x w => rijndael_through_l3 K n x.1 x.2.1 x.2.2.1 x.2.2.2.1 x.2.2.2.2.1 x.2.2.2.2.2.1 x.2.2.2.2.2.2.1 x.2.2.2.2.2.2.2.1 w) n) (.block 6 (.loop (cd (bodyOf f67) [1, 1, 1, 1, 1, 0, 1, 0, 0]))) :=
    mk_loopN (O := tabL []) (root := (bodyOf f67)) (π := [1, 1, 1, 1, 1, 0, 1, 0, 0]) (id := 6) (Li := [(1, .sl), (3, .ptr), (4, .int .i64), (5, .addr), (10, .addr), (12, .int .i64), (16, .addr), (103, .int .i64)]) (Lo := []) (S := (fun n x w => rijndael_through_l3 K n x.1 x.2.1 x.2.2.1 x.2.2.2.1 x.2.2.2.2.1 x.2.2.2.2.2.1 x.2.2.2.2.2.2.1 x.2.2.2.2.2.2.2.1 w)) (body := cd (bodyOf f67) [1, 1, 1, 1, 1, 0, 1, 0, 0]) (rijndael_through_Eok K) (rijndael_through_Rok K) rfl (Orc.nil _ _ _) (by kernel_rfl) (fun _ _ => by kernel_rfl) (fun _ _ _ => by kernel_rfl) n
noncomputable def rijndael_through_l3_se (K : Nat) : SE := stmtN [(1, .sl), (3, .ptr), (4, .int .i64), (5, .addr), (10, .addr), (12, .int .i64), (16, .addr), (103, .int .i64)] [] [(17, 18), (103, 169)] (fun x w => rijndael_through_l3 K K x.1 x.2.1 x.2.2.1 x.2.2.2.1 x.2.2.2.2.1 x.2.2.2.2.2.1 x.2.2.2.2.2.2.1 x.2.2.2.2.2.2.2.1 w)
theorem rijndael_through_l3_se_ok (K : Nat) (R : Rg) (h : subRB [(17, 18), (103, 169)] R = true) : (rijndael_through_l3_se K).Ok prog R (.block 6 (.loop (cd (bodyOf f67) [1, 1, 1, 1, 1, 0, 1, 0, 0]))) := stmtN_ok (Li := [(1, .sl), (3, .ptr), (4, .int .i64), (5, .addr), (10, .addr), (12, .int .i64), (16, .addr), (103, .int .i64)]) (Lo := []) (S := (fun x w => rijndael_through_l3 K K x.1 x.2.1 x.2.2.1 x.2.2.2.1 x.2.2.2.2.1 x.2.2.2.2.2.1 x.2.2.2.2.2.2.1 x.2.2.2.2.2.2.2.1 w)) (rijndael_through_l3_ok K K) (subR_of h)
theorem rijndael_through_facts : FunFacts prog 67 f67 (bodyOf f67) [(0, .agg), (1, .sl), (2, .ptr), (3, .ptr), (4, .int .i64)] [(0, 170)] := ⟨func67, by kernel_rfl, by kernel_rfl, by kernel_rfl, by kernel_rfl, by kernel_rfl⟩
theorem rijndael_through_calls (K : Nat) (x : TT [(0, .agg), (1, .sl), (2, .ptr), (3, .ptr), (4, .int .i64)]) (w : World) (y : TR [.agg]) (w2 : World) (h : rijndael_through K x.1 x.2.1 x.2.2.1 x.2.2.2.1 x.2.2.2.2.1 w = some (y, w2)) : Calls prog 67 (encA [(0, .agg), (1, .sl), (2, .ptr), (3, .ptr), (4, .int .i64)] x).toArray w (fun e w3 => e = .returned (resV (encR [.agg] y)) ∧ w3 = w2) :=
    mk_fun (O := tabL [([1, 0, 1], rijndael_through_l0_se K), ([1, 1, 1, 0, 1], rijndael_through_l1_se K), ([1, 1, 1, 0, 1, 0, 0, 1, 0, 0, 1, 0, 1], rijndael_through_l2_se K), ([1, 1, 1, 1, 1, 0, 1], rijndael_through_l3_se K)]) (Lp := [(0, .agg), (1, .sl), (2, .ptr), (3, .ptr), (4, .int .i64)]) (Rt := [.agg]) (S := (fun x w => rijndael_through K x.1 x.2.1 x.2.2.1 x.2.2.2.1 x.2.2.2.2.1 w)) (rijndael_through_Eok K) (rijndael_through_Rok K) rfl rijndael_through_facts (Orc.cons (by kernel_rfl) (rijndael_through_l0_se_ok K [(0, 170)] (by kernel_rfl)) (Orc.cons (by kernel_rfl) (rijndael_through_l1_se_ok K [(0, 170)] (by kernel_rfl)) (Orc.cons (by kernel_rfl) (rijndael_through_l2_se_ok K [(0, 170)] (by kernel_rfl)) (Orc.cons (by kernel_rfl) (rijndael_through_l3_se_ok K [(0, 170)] (by kernel_rfl)) (Orc.nil _ _ _))))) (fun _ _ => by kernel_rfl) x w y w2 h
noncomputable def rijndael_through_ce (K : Nat) : CE := funE [(0, .agg), (1, .sl), (2, .ptr), (3, .ptr), (4, .int .i64)] [.agg] (fun x w => rijndael_through K x.1 x.2.1 x.2.2.1 x.2.2.2.1 x.2.2.2.2.1 w)
theorem rijndael_through_ok (K : Nat) : (rijndael_through_ce K).Ok prog 67 := funE_ok (Rt := [.agg]) (S := (fun x w => rijndael_through K x.1 x.2.1 x.2.2.1 x.2.2.2.1 x.2.2.2.2.1 w)) rijndael_through_facts fun x w y w2 h => rijndael_through_calls K x w y w2 h

noncomputable def rijndael_lay_E (K : Nat) : List (Nat × CE) := []
theorem rijndael_lay_Eok (K : Nat) : Env.Ok prog (tab (rijndael_lay_E K)) := (Env.nil _)
noncomputable def rijndael_lay_R (K : Nat) : List (Nat × RE) := []
theorem rijndael_lay_Rok (K : Nat) : REnv.Ok prog (tab (rijndael_lay_R K)) := (REnv.nil _)
noncomputable def rijndael_lay_l0_b (K : Nat) (rec : Sl → Int → Int → Int → Int → World → Option ((Unit) × World)) (b0 : Sl) (size1 : Int) (n2 : Int) (a7 : Int) (a8 : Int) (w : World) : Option ((Unit) × World) :=
  if (decide (a8 < a7)) = true then (if (0 : Int) ≤ (IntKind.i64.wrap (8 * (IntKind.i64.wrap ((IntKind.i64.wrap (size1 - 1)) - a8)))) then ((b0.a).bind fun p_1 =>
  if (0 : Int) ≤ a8 ∧ a8 < ((b0.len : Nat) : Int) then ((stC (p_1.add ((Int.toNat a8) * 1)) (.int .u8 (IntKind.u8.wrap (Int.fdiv n2 (2 ^ (min (Int.toNat (IntKind.i64.wrap (8 * (IntKind.i64.wrap ((IntKind.i64.wrap (size1 - 1)) - a8))))) IntKind.u64.bits))))) w).bind fun w_2 =>
  rec b0 size1 n2 a7 (IntKind.i64.wrap (a8 + 1)) w_2) else none) else none) else (some ((), w))
noncomputable def rijndael_lay_l0 (K : Nat) (n : Nat) : Sl → Int → Int → Int → Int → World → Option ((Unit) × World) := iter (fun _ _ _ _ _ _ => none) (rijndael_lay_l0_b K) n
/-- coffer/rijndael.lay -/
noncomputable def rijndael_lay (K : Nat) (b0 : Sl) (size1 : Int) (n2 : Int) (w : World) : Option ((Unit) × World) :=
  bnd (rijndael_lay_l0 K K b0 size1 n2 size1 0 w) fun y_3 w_4 =>
  some ((), w_4)
theorem rijndael_lay_l0_ok (K : Nat) (n : Nat) : StmtNOk prog [(0, .sl), (1, .int .i64), (2, .int .u64), (7, .int .i64), (8, .int .i64)] [] [(6, 7), (8, 23)] ((fun n x w => rijndael_lay_l0 K n x.1 x.2.1 x.2.2.1 x.2.2.2.1 x.2.2.2.2.1 w) n) (.block 0 (.loop (cd (bodyOf f51) [1, 0, 0]))) :=
    mk_loopN (O := tabL []) (root := (bodyOf f51)) (π := [1, 0, 0]) (id := 0) (Li := [(0, .sl), (1, .int .i64), (2, .int .u64), (7, .int .i64), (8, .int .i64)]) (Lo := []) (S := (fun n x w => rijndael_lay_l0 K n x.1 x.2.1 x.2.2.1 x.2.2.2.1 x.2.2.2.2.1 w)) (body := cd (bodyOf f51) [1, 0, 0]) (rijndael_lay_Eok K) (rijndael_lay_Rok K) rfl (Orc.nil _ _ _) (by kernel_rfl) (fun _ _ => by kernel_rfl) (fun _ _ _ => by kernel_rfl) n
noncomputable def rijndael_lay_l0_se (K : Nat) : SE := stmtN [(0, .sl), (1, .int .i64), (2, .int .u64), (7, .int .i64), (8, .int .i64)] [] [(6, 7), (8, 23)] (fun x w => rijndael_lay_l0 K K x.1 x.2.1 x.2.2.1 x.2.2.2.1 x.2.2.2.2.1 w)
theorem rijndael_lay_l0_se_ok (K : Nat) (R : Rg) (h : subRB [(6, 7), (8, 23)] R = true) : (rijndael_lay_l0_se K).Ok prog R (.block 0 (.loop (cd (bodyOf f51) [1, 0, 0]))) := stmtN_ok (Li := [(0, .sl), (1, .int .i64), (2, .int .u64), (7, .int .i64), (8, .int .i64)]) (Lo := []) (S := (fun x w => rijndael_lay_l0 K K x.1 x.2.1 x.2.2.1 x.2.2.2.1 x.2.2.2.2.1 w)) (rijndael_lay_l0_ok K K) (subR_of h)
theorem rijndael_lay_facts : FunFacts prog 51 f51 (bodyOf f51) [(0, .sl), (1, .int .i64), (2, .int .u64)] [(0, 23)] := ⟨func51, by kernel_rfl, by kernel_rfl, by kernel_rfl, by kernel_rfl, by kernel_rfl⟩
theorem rijndael_lay_calls (K : Nat) (x : TT [(0, .sl), (1, .int .i64), (2, .int .u64)]) (w : World) (y : TR []) (w2 : World) (h : rijndael_lay K x.1 x.2.1 x.2.2.1 w = some (y, w2)) : Calls prog 51 (encA [(0, .sl), (1, .int .i64), (2, .int .u64)] x).toArray w (fun e w3 => e = .returned (resV (encR [] y)) ∧ w3 = w2) :=
    mk_fun (O := tabL [([1], rijndael_lay_l0_se K)]) (Lp := [(0, .sl), (1, .int .i64), (2, .int .u64)]) (Rt := []) (S := (fun x w => rijndael_lay K x.1 x.2.1 x.2.2.1 w)) (rijndael_lay_Eok K) (rijndael_lay_Rok K) rfl rijndael_lay_facts (Orc.cons (by kernel_rfl) (rijndael_lay_l0_se_ok K [(0, 23)] (by kernel_rfl)) (Orc.nil _ _ _)) (fun _ _ => by kernel_rfl) x w y w2 h
noncomputable def rijndael_lay_ce (K : Nat) : CE := funE [(0, .sl), (1, .int .i64), (2, .int .u64)] [] (fun x w => rijndael_lay K x.1 x.2.1 x.2.2.1 w)
theorem rijndael_lay_ok (K : Nat) : (rijndael_lay_ce K).Ok prog 51 := funE_ok (Rt := []) (S := (fun x w => rijndael_lay K x.1 x.2.1 x.2.2.1 w)) rijndael_lay_facts fun x w y w2 h => rijndael_lay_calls K x w y w2 h

noncomputable def rijndael_state_block_E (K : Nat) : List (Nat × CE) := [(51, rijndael_lay_ce K)]
theorem rijndael_state_block_Eok (K : Nat) : Env.Ok prog (tab (rijndael_state_block_E K)) := (Env.cons (rijndael_lay_ok K) (Env.nil _))
noncomputable def rijndael_state_block_R (K : Nat) : List (Nat × RE) := []
theorem rijndael_state_block_Rok (K : Nat) : REnv.Ok prog (tab (rijndael_state_block_R K)) := (REnv.nil _)
noncomputable def rijndael_state_block_l0_b (K : Nat) (rec : Addr → Addr → Array Value → Int → World → Option ((Unit) × World)) (a2 : Addr) (b3 : Addr) (a6 : Array Value) (a7 : Int) (w : World) : Option ((Unit) × World) :=
  if (decide (a7 < 4)) = true then (if (0 : Int) ≤ a7 ∧ a7 < ((4 : Nat) : Int) then ((a6[((Int.toNat a7) * 1)]?).bind fun v_8 =>
  (asI .u32 v_8).bind fun v_9 =>
  if (0 : Int) ≤ (IntKind.i64.wrap (4 * a7)) ∧ (IntKind.i64.wrap (4 * a7)) ≤ ((16 : Nat) : Int) then (bnd (rijndael_lay K ⟨(sla (some b3) (Int.toNat ((IntKind.i64.wrap (4 * a7)))) 16 1), (16 - (Int.toNat ((IntKind.i64.wrap (4 * a7))))), (16 - (Int.toNat ((IntKind.i64.wrap (4 * a7)))))⟩ 4 (IntKind.u64.wrap v_9) w) fun r_10 w_11 =>
  rec a2 b3 a6 (IntKind.i64.wrap (a7 + 1)) w_11) else none) else none) else (some ((), w))
noncomputable def rijndael_state_block_l0 (K : Nat) (n : Nat) : Addr → Addr → Array Value → Int → World → Option ((Unit) × World) := iter (fun _ _ _ _ _ => none) (rijndael_state_block_l0_b K) n
/-- (coffer/rijndael.state).block -/
noncomputable def rijndael_state_block (K : Nat) (s0 : Array Value) (w : World) : Option (((Array Value) × Unit) × World) :=
  bnd (newB s0 135 w) fun p_1 w_2 =>
  bnd (newB z42 42 w_2) fun p_3 w_4 =>
  bnd (newB z42 42 w_4) fun b_5 w_6 =>
  (ldA 4 p_1 w_6).bind fun v_7 =>
  bnd (rijndael_state_block_l0 K K p_3 b_5 v_7 0 w_6) fun y_12 w_13 =>
  (ldA 16 b_5 w_13).bind fun v_14 =>
  if (v_14).size = 16 then ((stA p_3 v_14 w_13).bind fun w_15 =>
  (ldA 16 p_3 w_15).bind fun res_16 =>
  some ((res_16, ()), w_15)) else none
theorem rijndael_state_block_l0_ok (K : Nat) (n : Nat) : StmtNOk prog [(2, .addr), (3, .addr), (6, .agg), (7, .int .i64)] [] [(4, 6), (7, 18)] ((fun n x w => rijndael_state_block_l0 K n x.1 x.2.1 x.2.2.1 x.2.2.2.1 w) n) (.block 0 (.loop (cd (bodyOf f69) [1, 1, 0, 1, 0, 0]))) :=
    mk_loopN (O := tabL []) (root := (bodyOf f69)) (π := [1, 1, 0, 1, 0, 0]) (id := 0) (Li := [(2, .addr), (3, .addr), (6, .agg), (7, .int .i64)]) (Lo := []) (S := (fun n x w => rijndael_state_block_l0 K n x.1 x.2.1 x.2.2.1 x.2.2.2.1 w)) (body := cd (bodyOf f69) [1, 1, 0, 1, 0, 0]) (rijndael_state_block_Eok K) (rijndael_state_block_Rok K) rfl (Orc.nil _ _ _) (by kernel_rfl) (fun _ _ => by kernel_rfl) (fun _ _ _ => by kernel_rfl) n
noncomputable def rijndael_state_block_l0_se (K : Nat) : SE := stmtN [(2, .addr), (3, .addr), (6, .agg), (7, .int .i64)] [] [(4, 6), (7, 18)] (fun x w => rijndael_state_block_l0 K K x.1 x.2.1 x.2.2.1 x.2.2.2.1 w)
theorem rijndael_state_block_l0_se_ok (K : Nat) (R : Rg) (h : subRB [(4, 6), (7, 18)] R = true) : (rijndael_state_block_l0_se K).Ok prog R (.block 0 (.loop (cd (bodyOf f69) [1, 1, 0, 1, 0, 0]))) := stmtN_ok (Li := [(2, .addr), (3, .addr), (6, .agg), (7, .int .i64)]) (Lo := []) (S := (fun x w => rijndael_state_block_l0 K K x.1 x.2.1 x.2.2.1 x.2.2.2.1 w)) (rijndael_state_block_l0_ok K K) (subR_of h)
theorem rijndael_state_block_facts : FunFacts prog 69 f69 (bodyOf f69) [(0, .agg)] [(0, 19)] := ⟨func69, by kernel_rfl, by kernel_rfl, by kernel_rfl, by kernel_rfl, by kernel_rfl⟩
theorem rijndael_state_block_calls (K : Nat) (x : TT [(0, .agg)]) (w : World) (y : TR [.agg]) (w2 : World) (h : rijndael_state_block K x.1 w = some (y, w2)) : Calls prog 69 (encA [(0, .agg)] x).toArray w (fun e w3 => e = .returned (resV (encR [.agg] y)) ∧ w3 = w2) :=
    mk_fun (O := tabL [([1, 1, 0, 1], rijndael_state_block_l0_se K)]) (Lp := [(0, .agg)]) (Rt := [.agg]) (S := (fun x w => rijndael_state_block K x.1 w)) (rijndael_state_block_Eok K) (rijndael_state_block_Rok K) rfl rijndael_state_block_facts (Orc.cons (by kernel_rfl) (rijndael_state_block_l0_se_ok K [(0, 19)] (by kernel_rfl)) (Orc.nil _ _ _)) (fun _ _ => by kernel_rfl) x w y w2 h
noncomputable def rijndael_state_block_ce (K : Nat) : CE := funE [(0, .agg)] [.agg] (fun x w => rijndael_state_block K x.1 w)
theorem rijndael_state_block_ok (K : Nat) : (rijndael_state_block_ce K).Ok prog 69 := funE_ok (Rt := [.agg]) (S := (fun x w => rijndael_state_block K x.1 w)) rijndael_state_block_facts fun x w y w2 h => rijndael_state_block_calls K x w y w2 h

noncomputable def rijndael_tables_encrypt_E (K : Nat) : List (Nat × CE) := [(68, rijndael_load_ce K), (67, rijndael_through_ce K), (69, rijndael_state_block_ce K)]
theorem rijndael_tables_encrypt_Eok (K : Nat) : Env.Ok prog (tab (rijndael_tables_encrypt_E K)) := (Env.cons (rijndael_load_ok K) (Env.cons (rijndael_through_ok K) (Env.cons (rijndael_state_block_ok K) (Env.nil _))))
noncomputable def rijndael_tables_encrypt_R (K : Nat) : List (Nat × RE) := []
theorem rijndael_tables_encrypt_Rok (K : Nat) : REnv.Ok prog (tab (rijndael_tables_encrypt_R K)) := (REnv.nil _)
/-- (*coffer/rijndael.tables).encrypt -/
noncomputable def rijndael_tables_encrypt (K : Nat) (t0 : Option Addr) (w1 : Sl) (b2 : Array Value) (w : World) : Option (((Array Value) × Unit) × World) :=
  bnd (newB b2 42 w) fun p_1 w_2 =>
  bnd (newB z42 42 w_2) fun p_3 w_4 =>
  (t0).bind fun p_5 =>
  (t0).bind fun p_6 =>
  (ldA 16 p_1 w_4.drew).bind fun v_7 =>
  bnd (rijndael_load K v_7 w_4.drew) fun r_8 w_9 =>
  bnd (rijndael_through K r_8.1 w1 (some (p_5.add 512)) (some (p_6.add 0)) 1 w_9) fun r_10 w_11 =>
  bnd (rijndael_state_block K r_10.1 w_11) fun r_12 w_13 =>
  if (r_12.1).size = 16 then ((stA p_3 r_12.1 w_13).bind fun w_14 =>
  (ldA 16 p_3 w_14).bind fun res_15 =>
  some ((res_15, ()), w_14)) else none
theorem rijndael_tables_encrypt_facts : FunFacts prog 45 f45 (bodyOf f45) [(0, .ptr), (1, .sl), (2, .agg)] [(0, 18)] := ⟨func45, by kernel_rfl, by kernel_rfl, by kernel_rfl, by kernel_rfl, by kernel_rfl⟩
theorem rijndael_tables_encrypt_calls (K : Nat) (x : TT [(0, .ptr), (1, .sl), (2, .agg)]) (w : World) (y : TR [.agg]) (w2 : World) (h : rijndael_tables_encrypt K x.1 x.2.1 x.2.2.1 w = some (y, w2)) : Calls prog 45 (encA [(0, .ptr), (1, .sl), (2, .agg)] x).toArray w (fun e w3 => e = .returned (resV (encR [.agg] y)) ∧ w3 = w2) :=
    mk_fun (O := tabL []) (Lp := [(0, .ptr), (1, .sl), (2, .agg)]) (Rt := [.agg]) (S := (fun x w => rijndael_tables_encrypt K x.1 x.2.1 x.2.2.1 w)) (rijndael_tables_encrypt_Eok K) (rijndael_tables_encrypt_Rok K) rfl rijndael_tables_encrypt_facts (Orc.nil _ _ _) (fun _ _ => by kernel_rfl) x w y w2 h
noncomputable def rijndael_tables_encrypt_ce (K : Nat) : CE := funE [(0, .ptr), (1, .sl), (2, .agg)] [.agg] (fun x w => rijndael_tables_encrypt K x.1 x.2.1 x.2.2.1 w)
theorem rijndael_tables_encrypt_ok (K : Nat) : (rijndael_tables_encrypt_ce K).Ok prog 45 := funE_ok (Rt := [.agg]) (S := (fun x w => rijndael_tables_encrypt K x.1 x.2.1 x.2.2.1 w)) rijndael_tables_encrypt_facts fun x w y w2 h => rijndael_tables_encrypt_calls K x w y w2 h

noncomputable def rijndael_Key_Encrypt_E (K : Nat) : List (Nat × CE) := [(44, rijndael_Key_schedule_ce), (45, rijndael_tables_encrypt_ce K)]
theorem rijndael_Key_Encrypt_Eok (K : Nat) : Env.Ok prog (tab (rijndael_Key_Encrypt_E K)) := (Env.cons (rijndael_Key_schedule_ok) (Env.cons (rijndael_tables_encrypt_ok K) (Env.nil _)))
noncomputable def rijndael_Key_Encrypt_R (K : Nat) : List (Nat × RE) := []
theorem rijndael_Key_Encrypt_Rok (K : Nat) : REnv.Ok prog (tab (rijndael_Key_Encrypt_R K)) := (REnv.nil _)
/-- (*coffer/rijndael.Key).Encrypt -/
noncomputable def rijndael_Key_Encrypt (K : Nat) (k0 : Option Addr) (b1 : Array Value) (w : World) : Option (((Array Value) × Int × Unit) × World) :=
  bnd (newB b1 42 w) fun p_1 w_2 =>
  bnd (newB z42 42 w_2) fun p_3 w_4 =>
  bnd (rijndael_Key_schedule k0 false w_4) fun r_5 w_6 =>
  if (r_5.2.1 != 0) = true then ((prog.built 42 []).bind fun cs_7 =>
  if (cs_7).size = 16 then ((stA p_3 cs_7 w_6).bind fun w_8 =>
  (ldA 16 p_3 w_8).bind fun res_9 =>
  some ((res_9, r_5.2.1, ()), w_8)) else none) else ((k0).bind fun p_10 =>
  (ldP (p_10.add 7) w_6.drew).bind fun v_11 =>
  (ldA 16 p_1 w_6.drew).bind fun v_12 =>
  bnd (rijndael_tables_encrypt K v_11 r_5.1 v_12 w_6.drew) fun r_13 w_14 =>
  if (r_13.1).size = 16 then ((stA p_3 r_13.1 w_14).bind fun w_15 =>
  (ldA 16 p_3 w_15).bind fun res_16 =>
  some ((res_16, 0, ()), w_15)) else none)
theorem rijndael_Key_Encrypt_facts : FunFacts prog 22 f22 (bodyOf f22) [(0, .ptr), (1, .agg)] [(0, 24)] := ⟨func22, by kernel_rfl, by kernel_rfl, by kernel_rfl, by kernel_rfl, by kernel_rfl⟩
theorem rijndael_Key_Encrypt_calls (K : Nat) (x : TT [(0, .ptr), (1, .agg)]) (w : World) (y : TR [.agg, .int .i64]) (w2 : World) (h : rijndael_Key_Encrypt K x.1 x.2.1 w = some (y, w2)) : Calls prog 22 (encA [(0, .ptr), (1, .agg)] x).toArray w (fun e w3 => e = .returned (resV (encR [.agg, .int .i64] y)) ∧ w3 = w2) :=
    mk_fun (O := tabL []) (Lp := [(0, .ptr), (1, .agg)]) (Rt := [.agg, .int .i64]) (S := (fun x w => rijndael_Key_Encrypt K x.1 x.2.1 w)) (rijndael_Key_Encrypt_Eok K) (rijndael_Key_Encrypt_Rok K) rfl rijndael_Key_Encrypt_facts (Orc.nil _ _ _) (fun _ _ => by kernel_rfl) x w y w2 h
noncomputable def rijndael_Key_Encrypt_ce (K : Nat) : CE := funE [(0, .ptr), (1, .agg)] [.agg, .int .i64] (fun x w => rijndael_Key_Encrypt K x.1 x.2.1 w)
theorem rijndael_Key_Encrypt_ok (K : Nat) : (rijndael_Key_Encrypt_ce K).Ok prog 22 := funE_ok (Rt := [.agg, .int .i64]) (S := (fun x w => rijndael_Key_Encrypt K x.1 x.2.1 w)) rijndael_Key_Encrypt_facts fun x w y w2 h => rijndael_Key_Encrypt_calls K x w y w2 h

noncomputable def rijndael_tables_decrypt_E (K : Nat) : List (Nat × CE) := [(68, rijndael_load_ce K), (67, rijndael_through_ce K), (69, rijndael_state_block_ce K)]
theorem rijndael_tables_decrypt_Eok (K : Nat) : Env.Ok prog (tab (rijndael_tables_decrypt_E K)) := (Env.cons (rijndael_load_ok K) (Env.cons (rijndael_through_ok K) (Env.cons (rijndael_state_block_ok K) (Env.nil _))))
noncomputable def rijndael_tables_decrypt_R (K : Nat) : List (Nat × RE) := []
theorem rijndael_tables_decrypt_Rok (K : Nat) : REnv.Ok prog (tab (rijndael_tables_decrypt_R K)) := (REnv.nil _)
/-- (*coffer/rijndael.tables).decrypt -/
noncomputable def rijndael_tables_decrypt (K : Nat) (t0 : Option Addr) (w1 : Sl) (b2 : Array Value) (w : World) : Option (((Array Value) × Unit) × World) :=
  bnd (newB b2 42 w) fun p_1 w_2 =>
  bnd (newB z42 42 w_2) fun p_3 w_4 =>
  (t0).bind fun p_5 =>
  (t0).bind fun p_6 =>
  (ldA 16 p_1 w_4.drew).bind fun v_7 =>
  bnd (rijndael_load K v_7 w_4.drew) fun r_8 w_9 =>
  bnd (rijndael_through K r_8.1 w1 (some (p_5.add 1536)) (some (p_6.add 256)) 3 w_9) fun r_10 w_11 =>
  bnd (rijndael_state_block K r_10.1 w_11) fun r_12 w_13 =>
  if (r_12.1).size = 16 then ((stA p_3 r_12.1 w_13).bind fun w_14 =>
  (ldA 16 p_3 w_14).bind fun res_15 =>
  some ((res_15, ()), w_14)) else none
theorem rijndael_tables_decrypt_facts : FunFacts prog 46 f46 (bodyOf f46) [(0, .ptr), (1, .sl), (2, .agg)] [(0, 18)] := ⟨func46, by kernel_rfl, by kernel_rfl, by kernel_rfl, by kernel_rfl, by kernel_rfl⟩
theorem rijndael_tables_decrypt_calls (K : Nat) (x : TT [(0, .ptr), (1, .sl), (2, .agg)]) (w : World) (y : TR [.agg]) (w2 : World) (h : rijndael_tables_decrypt K x.1 x.2.1 x.2.2.1 w = some (y, w2)) : Calls prog 46 (encA [(0, .ptr), (1, .sl), (2, .agg)] x).toArray w (fun e w3 => e = .returned (resV (encR [.agg] y)) ∧ w3 = w2) :=
    mk_fun (O := tabL []) (Lp := [(0, .ptr), (1, .sl), (2, .agg)]) (Rt := [.agg]) (S := (fun x w => rijndael_tables_decrypt K x.1 x.2.1 x.2.2.1 w)) (rijndael_tables_decrypt_Eok K) (rijndael_tables_decrypt_Rok K) rfl rijndael_tables_decrypt_facts (Orc.nil _ _ _) (fun _ _ => by kernel_rfl) x w y w2 h
noncomputable def rijndael_tables_decrypt_ce (K : Nat) : CE := funE [(0, .ptr), (1, .sl), (2, .agg)] [.agg] (fun x w => rijndael_tables_decrypt K x.1 x.2.1 x.2.2.1 w)
theorem rijndael_tables_decrypt_ok (K : Nat) : (rijndael_tables_decrypt_ce K).Ok prog 46 := funE_ok (Rt := [.agg]) (S := (fun x w => rijndael_tables_decrypt K x.1 x.2.1 x.2.2.1 w)) rijndael_tables_decrypt_facts fun x w y w2 h => rijndael_tables_decrypt_calls K x w y w2 h

noncomputable def rijndael_Key_Decrypt_E (K : Nat) : List (Nat × CE) := [(44, rijndael_Key_schedule_ce), (46, rijndael_tables_decrypt_ce K)]
theorem rijndael_Key_Decrypt_Eok (K : Nat) : Env.Ok prog (tab (rijndael_Key_Decrypt_E K)) := (Env.cons (rijndael_Key_schedule_ok) (Env.cons (rijndael_tables_decrypt_ok K) (Env.nil _)))
noncomputable def rijndael_Key_Decrypt_R (K : Nat) : List (Nat × RE) := []
theorem rijndael_Key_Decrypt_Rok (K : Nat) : REnv.Ok prog (tab (rijndael_Key_Decrypt_R K)) := (REnv.nil _)
/-- (*coffer/rijndael.Key).Decrypt -/
noncomputable def rijndael_Key_Decrypt (K : Nat) (k0 : Option Addr) (b1 : Array Value) (w : World) : Option (((Array Value) × Int × Unit) × World) :=
  bnd (newB b1 42 w) fun p_1 w_2 =>
  bnd (newB z42 42 w_2) fun p_3 w_4 =>
  bnd (rijndael_Key_schedule k0 true w_4) fun r_5 w_6 =>
  if (r_5.2.1 != 0) = true then ((prog.built 42 []).bind fun cs_7 =>
  if (cs_7).size = 16 then ((stA p_3 cs_7 w_6).bind fun w_8 =>
  (ldA 16 p_3 w_8).bind fun res_9 =>
  some ((res_9, r_5.2.1, ()), w_8)) else none) else ((k0).bind fun p_10 =>
  (ldP (p_10.add 7) w_6.drew).bind fun v_11 =>
  (ldA 16 p_1 w_6.drew).bind fun v_12 =>
  bnd (rijndael_tables_decrypt K v_11 r_5.1 v_12 w_6.drew) fun r_13 w_14 =>
  if (r_13.1).size = 16 then ((stA p_3 r_13.1 w_14).bind fun w_15 =>
  (ldA 16 p_3 w_15).bind fun res_16 =>
  some ((res_16, 0, ()), w_15)) else none)
theorem rijndael_Key_Decrypt_facts : FunFacts prog 23 f23 (bodyOf f23) [(0, .ptr), (1, .agg)] [(0, 24)] := ⟨func23, by kernel_rfl, by kernel_rfl, by kernel_rfl, by kernel_rfl, by kernel_rfl⟩
theorem rijndael_Key_Decrypt_calls (K : Nat) (x : TT [(0, .ptr), (1, .agg)]) (w : World) (y : TR [.agg, .int .i64]) (w2 : World) (h : rijndael_Key_Decrypt K x.1 x.2.1 w = some (y, w2)) : Calls prog 23 (encA [(0, .ptr), (1, .agg)] x).toArray w (fun e w3 => e = .returned (resV (encR [.agg, .int .i64] y)) ∧ w3 = w2) :=
    mk_fun (O := tabL []) (Lp := [(0, .ptr), (1, .agg)]) (Rt := [.agg, .int .i64]) (S := (fun x w => rijndael_Key_Decrypt K x.1 x.2.1 w)) (rijndael_Key_Decrypt_Eok K) (rijndael_Key_Decrypt_Rok K) rfl rijndael_Key_Decrypt_facts (Orc.nil _ _ _) (fun _ _ => by kernel_rfl) x w y w2 h
noncomputable def rijndael_Key_Decrypt_ce (K : Nat) : CE := funE [(0, .ptr), (1, .agg)] [.agg, .int .i64] (fun x w => rijndael_Key_Decrypt K x.1 x.2.1 w)
theorem rijndael_Key_Decrypt_ok (K : Nat) : (rijndael_Key_Decrypt_ce K).Ok prog 23 := funE_ok (Rt := [.agg, .int .i64]) (S := (fun x w => rijndael_Key_Decrypt K x.1 x.2.1 w)) rijndael_Key_Decrypt_facts fun x w y w2 h => rijndael_Key_Decrypt_calls K x w y w2 h

noncomputable def ref02_Key_added_E (K : Nat) : List (Nat × CE) := []
theorem ref02_Key_added_Eok (K : Nat) : Env.Ok prog (tab (ref02_Key_added_E K)) := (Env.nil _)
noncomputable def ref02_Key_added_R (K : Nat) : List (Nat × RE) := []
theorem ref02_Key_added_Rok (K : Nat) : REnv.Ok prog (tab (ref02_Key_added_R K)) := (REnv.nil _)
noncomputable def ref02_Key_added_l0_b (K : Nat) (rec : Option Addr → Int → Addr → Addr → Int → World → Option ((Unit) × World)) (k0 : Option Addr) (r2 : Int) (b4 : Addr) (a6 : Addr) (i7 : Int) (w : World) : Option ((Unit) × World) :=
  if (decide (i7 < 16)) = true then (if (0 : Int) ≤ i7 ∧ i7 < ((16 : Nat) : Int) then ((k0).bind fun p_5 =>
  (ldI .u8 (b4.add ((Int.toNat i7) * 1)) w.drew).bind fun v_6 =>
  (ldS (p_5.add 1) w.drew).bind fun v_7 =>
  (v_7.a).bind fun p_8 =>
  if (0 : Int) ≤ (IntKind.i64.wrap ((IntKind.i64.wrap (16 * r2)) + i7)) ∧ (IntKind.i64.wrap ((IntKind.i64.wrap (16 * r2)) + i7)) < ((v_7.len : Nat) : Int) then ((ldI .u8 (p_8.add ((Int.toNat (IntKind.i64.wrap ((IntKind.i64.wrap (16 * r2)) + i7))) * 1)) w.drew).bind fun v_9 =>
  if (0 : Int) ≤ i7 ∧ i7 < ((16 : Nat) : Int) then ((stC (b4.add ((Int.toNat i7) * 1)) (.int .u8 (bits .xor .u8 v_6 v_9)) w.drew).bind fun w_10 =>
  rec k0 r2 b4 a6 (IntKind.i64.wrap (i7 + 1)) w_10) else none) else none) else none) else (some ((), w))
noncomputable def ref02_Key_added_l0 (K : Nat) (n : Nat) : Option Addr → Int → Addr → Addr → Int → World → Option ((Unit) × World) := iter (fun _ _ _ _ _ _ => none) (ref02_Key_added_l0_b K) n
/-- (*coffer/cofferref02.Key).added -/
noncomputable def ref02_Key_added (K : Nat) (k0 : Option Addr) (b1 : Array Value) (r2 : Int) (w : World) : Option (((Array Value) × Unit) × World) :=
  bnd (newB b1 41 w) fun p_1 w_2 =>
  bnd (newB z41 41 w_2) fun p_3 w_4 =>
  bnd (ref02_Key_added_l0 K K k0 r2 p_1 p_3 0 w_4) fun y_11 w_12 =>
  (ldA 16 p_1 w_12).bind fun v_13 =>
  if (v_13).size = 16 then ((stA p_3 v_13 w_12).bind fun w_14 =>
  (ldA 16 p_3 w_14).bind fun res_15 =>
  some ((res_15, ()), w_14)) else none
theorem ref02_Key_added_l0_ok (K : Nat) (n : Nat) : StmtNOk prog [(0, .ptr), (2, .int .i64), (4, .addr), (6, .addr), (7, .int .i64)] [] [(7, 28)] ((fun n x w => ref02_Key_added_l0 K n x.1 x.2.1 x.2.2.1 x.2.2.2.1 x.2.2.2.2.1 w) n) (.block 0 (.loop (cd (bodyOf f47) [1, 0, 1, 0, 0]))) :=
    mk_loopN (O := tabL []) (root := (bodyOf f47)) (π := [1, 0, 1, 0, 0]) (id := 0) (Li := [(0, .ptr), (2, .int .i64), (4, .addr), (6, .addr), (7, .int .i64)]) (Lo := []) (S := (fun n x w => ref02_Key_added_l0 K n x.1 x.2.1 x.2.2.1 x.2.2.2.1 x.2.2.2.2.1 w)) (body := cd (bodyOf f47) [1, 0, 1, 0, 0]) (ref02_Key_added_Eok K) (ref02_Key_added_Rok K) rfl (Orc.nil _ _ _) (by kernel_rfl) (fun _ _ => by kernel_rfl) (fun _ _ _ => by kernel_rfl) n
noncomputable def ref02_Key_added_l0_se (K : Nat) : SE := stmtN [(0, .ptr), (2, .int .i64), (4, .addr), (6, .addr), (7, .int .i64)] [] [(7, 28)] (fun x w => ref02_Key_added_l0 K K x.1 x.2.1 x.2.2.1 x.2.2.2.1 x.2.2.2.2.1 w)
theorem ref02_Key_added_l0_se_ok (K : Nat) (R : Rg) (h : subRB [(7, 28)] R = true) : (ref02_Key_added_l0_se K).Ok prog R (.block 0 (.loop (cd (bodyOf f47) [1, 0, 1, 0, 0]))) := stmtN_ok (Li := [(0, .ptr), (2, .int .i64), (4, .addr), (6, .addr), (7, .int .i64)]) (Lo := []) (S := (fun x w => ref02_Key_added_l0 K K x.1 x.2.1 x.2.2.1 x.2.2.2.1 x.2.2.2.2.1 w)) (ref02_Key_added_l0_ok K K) (subR_of h)
theorem ref02_Key_added_facts : FunFacts prog 47 f47 (bodyOf f47) [(0, .ptr), (1, .agg), (2, .int .i64)] [(0, 29)] := ⟨func47, by kernel_rfl, by kernel_rfl, by kernel_rfl, by kernel_rfl, by kernel_rfl⟩
theorem ref02_Key_added_calls (K : Nat) (x : TT [(0, .ptr), (1, .agg), (2, .int .i64)]) (w : World) (y : TR [.agg]) (w2 : World) (h : ref02_Key_added K x.1 x.2.1 x.2.2.1 w = some (y, w2)) : Calls prog 47 (encA [(0, .ptr), (1, .agg), (2, .int .i64)] x).toArray w (fun e w3 => e = .returned (resV (encR [.agg] y)) ∧ w3 = w2) :=
    mk_fun (O := tabL [([1, 0, 1], ref02_Key_added_l0_se K)]) (Lp := [(0, .ptr), (1, .agg), (2, .int .i64)]) (Rt := [.agg]) (S := (fun x w => ref02_Key_added K x.1 x.2.1 x.2.2.1 w)) (ref02_Key_added_Eok K) (ref02_Key_added_Rok K) rfl ref02_Key_added_facts (Orc.cons (by kernel_rfl) (ref02_Key_added_l0_se_ok K [(0, 29)] (by kernel_rfl)) (Orc.nil _ _ _)) (fun _ _ => by kernel_rfl) x w y w2 h
noncomputable def ref02_Key_added_ce (K : Nat) : CE := funE [(0, .ptr), (1, .agg), (2, .int .i64)] [.agg] (fun x w => ref02_Key_added K x.1 x.2.1 x.2.2.1 w)
theorem ref02_Key_added_ok (K : Nat) : (ref02_Key_added_ce K).Ok prog 47 := funE_ok (Rt := [.agg]) (S := (fun x w => ref02_Key_added K x.1 x.2.1 x.2.2.1 w)) ref02_Key_added_facts fun x w y w2 h => ref02_Key_added_calls K x w y w2 h

noncomputable def ref02_Key_columns_E (K : Nat) : List (Nat × CE) := []
theorem ref02_Key_columns_Eok (K : Nat) : Env.Ok prog (tab (ref02_Key_columns_E K)) := (Env.nil _)
noncomputable def ref02_Key_columns_R (K : Nat) : List (Nat × RE) := []
theorem ref02_Key_columns_Rok (K : Nat) : REnv.Ok prog (tab (ref02_Key_columns_R K)) := (REnv.nil _)
noncomputable def ref02_Key_columns_l2_b (K : Nat) (rec : Option Addr → Addr → Addr → Addr → Addr → Int → Int → Int → Int → World → Option ((Int × Unit) × World)) (k0 : Option Addr) (b4 : Addr) (row5 : Addr) (a6 : Addr) (out7 : Addr) (c8 : Int) (r9 : Int) (x10 : Int) (j11 : Int) (w : World) : Option ((Int × Unit) × World) :=
  if (decide (j11 < 4)) = true then (if (0 : Int) ≤ (Int.tmod (IntKind.i64.wrap ((IntKind.i64.wrap (j11 + 4)) - r9)) 4) ∧ (Int.tmod (IntKind.i64.wrap ((IntKind.i64.wrap (j11 + 4)) - r9)) 4) < ((4 : Nat) : Int) then (if (0 : Int) ≤ (IntKind.i64.wrap ((IntKind.i64.wrap (4 * c8)) + j11)) ∧ (IntKind.i64.wrap ((IntKind.i64.wrap (4 * c8)) + j11)) < ((16 : Nat) : Int) then ((k0).bind fun p_9 =>
  (ldI .u8 (row5.add ((Int.toNat (Int.tmod (IntKind.i64.wrap ((IntKind.i64.wrap (j11 + 4)) - r9)) 4)) * 1)) w.drew).bind fun v_10 =>
  if (0 : Int) ≤ v_10 ∧ v_10 < ((16 : Nat) : Int) then ((ldI .u8 (b4.add ((Int.toNat (IntKind.i64.wrap ((IntKind.i64.wrap (4 * c8)) + j11))) * 1)) w.drew).bind fun v_11 =>
  if (0 : Int) ≤ v_11 ∧ v_11 < ((256 : Nat) : Int) then ((ldI .u8 (((p_9.add 514).add ((Int.toNat v_10) * 256)).add ((Int.toNat v_11) * 1)) w.drew).bind fun v_12 =>
  rec k0 b4 row5 a6 out7 c8 r9 (bits .xor .u8 x10 v_12) (IntKind.i64.wrap (j11 + 1)) w.drew) else none) else none) else none) else none) else (some ((x10, ()), w))
noncomputable def ref02_Key_columns_l2 (K : Nat) (n : Nat) : Option Addr → Addr → Addr → Addr → Addr → Int → Int → Int → Int → World → Option ((Int × Unit) × World) := iter (fun _ _ _ _ _ _ _ _ _ _ => none) (ref02_Key_columns_l2_b K) n
noncomputable def ref02_Key_columns_l1_b (K : Nat) (rec : Option Addr → Addr → Addr → Addr → Addr → Int → Int → World → Option ((Unit) × World)) (k0 : Option Addr) (b4 : Addr) (row5 : Addr) (a6 : Addr) (out7 : Addr) (c8 : Int) (r9 : Int) (w : World) : Option ((Unit) × World) :=
  if (decide (r9 < 4)) = true then (bnd (ref02_Key_columns_l2 K K k0 b4 row5 a6 out7 c8 r9 0 0 w) fun y_13 w_14 =>
  if (0 : Int) ≤ (IntKind.i64.wrap ((IntKind.i64.wrap (4 * c8)) + r9)) ∧ (IntKind.i64.wrap ((IntKind.i64.wrap (4 * c8)) + r9)) < ((16 : Nat) : Int) then ((stC (out7.add ((Int.toNat (IntKind.i64.wrap ((IntKind.i64.wrap (4 * c8)) + r9))) * 1)) (.int .u8 y_13.1) w_14).bind fun w_15 =>
  rec k0 b4 row5 a6 out7 c8 (IntKind.i64.wrap (r9 + 1)) w_15) else none) else (some ((), w))
noncomputable def ref02_Key_columns_l1 (K : Nat) (n : Nat) : Option Addr → Addr → Addr → Addr → Addr → Int → Int → World → Option ((Unit) × World) := iter (fun _ _ _ _ _ _ _ _ => none) (ref02_Key_columns_l1_b K) n
noncomputable def ref02_Key_columns_l0_b (K : Nat) (rec : Option Addr → Addr → Addr → Addr → Addr → Int → World → Option ((Unit) × World)) (k0 : Option Addr) (b4 : Addr) (row5 : Addr) (a6 : Addr) (out7 : Addr) (c8 : Int) (w : World) : Option ((Unit) × World) :=
  if (decide (c8 < 4)) = true then (bnd (ref02_Key_columns_l1 K K k0 b4 row5 a6 out7 c8 0 w) fun y_16 w_17 =>
  rec k0 b4 row5 a6 out7 (IntKind.i64.wrap (c8 + 1)) w_17) else (some ((), w))
noncomputable def ref02_Key_columns_l0 (K : Nat) (n : Nat) : Option Addr → Addr → Addr → Addr → Addr → Int → World → Option ((Unit) × World) := iter (fun _ _ _ _ _ _ _ => none) (ref02_Key_columns_l0_b K) n
/-- (*coffer/cofferref02.Key).columns -/
noncomputable def ref02_Key_columns (K : Nat) (k0 : Option Addr) (b1 : Array Value) (row2 : Array Value) (w : World) : Option (((Array Value) × Unit) × World) :=
  bnd (newB b1 41 w) fun p_1 w_2 =>
  bnd (newB row2 105 w_2) fun p_3 w_4 =>
  bnd (newB z41 41 w_4) fun p_5 w_6 =>
  bnd (newB z41 41 w_6) fun out_7 w_8 =>
  bnd (ref02_Key_columns_l0 K K k0 p_1 p_3 p_5 out_7 0 w_8) fun y_18 w_19 =>
  (ldA 16 out_7 w_19).bind fun v_20 =>
  if (v_20).size = 16 then ((stA p_5 v_20 w_19).bind fun w_21 =>
  (ldA 16 p_5 w_21).bind fun res_22 =>
  some ((res_22, ()), w_21)) else none
theorem ref02_Key_columns_l2_ok (K : Nat) (n : Nat) : StmtNOk prog [(0, .ptr), (4, .addr), (5, .addr), (6, .addr), (7, .addr), (8, .int .i64), (9, .int .i64), (10, .int .u8), (11, .int .i64)] [(10, .int .u8)] [(10, 12), (20, 45)] ((fun n x w => ref02_Key_columns_l2 K n x.1 x.2.1 x.2.2.1 x.2.2.2.1 x.2.2.2.2.1 x.2.2.2.2.2.1 x.2.2.2.2.2.2.1 x.2.2.2.2.2.2.2.1 x.2.2.2.2.2.2.2.2.1 w) n) (.block 4 (.loop (cd (bodyOf f48) [1, 1, 0, 1, 0, 0, 1, 0, 0, 1, 0, 0, 1, 0, 0, 1, 0, 1, 0, 0]))) :=
    mk_loopN (O := tabL []) (root := (bodyOf f48)) (π := [1, 1, 0, 1, 0, 0, 1, 0, 0, 1, 0, 0, 1, 0, 0, 1, 0, 1, 0, 0]) (id := 4) (Li := [(0, .ptr), (4, .addr), (5, .addr), (6, .addr), (7, .addr), (8, .int .i64), (9, .int .i64), (10, .int .u8), (11, .int .i64)]) (Lo := [(10, .int .u8)]) (S := (fun n x w => ref02_Key_columns_l2 K n x.1 x.2.1 x.2.2.1 x.2.2.2.1 x.2.2.2.2.1 x.2.2.2.2.2.1 x.2.2.2.2.2.2.1 x.2.2.2.2.2.2.2.1 x.2.2.2.2.2.2.2.2.1 w)) (body := cd (bodyOf f48) [1, 1, 0, 1, 0, 0, 1, 0, 0, 1, 0, 0, 1, 0, 0, 1, 0, 1, 0, 0]) (ref02_Key_columns_Eok K) (ref02_Key_columns_Rok K) rfl (Orc.nil _ _ _) (by kernel_rfl) (fun _ _ => by kernel_rfl) (fun _ _ _ => by kernel_rfl) n
noncomputable def ref02_Key_columns_l2_se (K : Nat) : SE := stmtN [(0, .ptr), (4, .addr), (5, .addr), (6, .addr), (7, .addr), (8, .int .i64), (9, .int .i64), (10, .int .u8), (11, .int .i64)] [(10, .int .u8)] [(10, 12), (20, 45)] (fun x w => ref02_Key_columns_l2 K K x.1 x.2.1 x.2.2.1 x.2.2.2.1 x.2.2.2.2.1 x.2.2.2.2.2.1 x.2.2.2.2.2.2.1 x.2.2.2.2.2.2.2.1 x.2.2.2.2.2.2.2.2.1 w)
theorem ref02_Key_columns_l2_se_ok (K : Nat) (R : Rg) (h : subRB [(10, 12), (20, 45)] R = true) : (ref02_Key_columns_l2_se K).Ok prog R (.block 4 (.loop (cd (bodyOf f48) [1, 1, 0, 1, 0, 0, 1, 0, 0, 1, 0, 0, 1, 0, 0, 1, 0, 1, 0, 0]))) := stmtN_ok (Li := [(0, .ptr), (4, .addr), (5, .addr), (6, .addr), (7, .addr), (8, .int .i64), (9, .int .i64), (10, .int .u8), (11, .int .i64)]) (Lo := [(10, .int .u8)]) (S := (fun x w => ref02_Key_columns_l2 K K x.1 x.2.1 x.2.2.1 x.2.2.2.1 x.2.2.2.2.1 x.2.2.2.2.2.1 x.2.2.2.2.2.2.1 x.2.2.2.2.2.2.2.1 x.2.2.2.2.2.2.2.2.1 w)) (ref02_Key_columns_l2_ok K K) (subR_of h)
theorem ref02_Key_columns_l1_ok (K : Nat) (n : Nat) : StmtNOk prog [(0, .ptr), (4, .addr), (5, .addr), (6, .addr), (7, .addr), (8, .int .i64), (9, .int .i64)] [] [(9, 12), (16, 51)] ((fun n x w => ref02_Key_columns_l1 K n x.1 x.2.1 x.2.2.1 x.2.2.2.1 x.2.2.2.2.1 x.2.2.2.2.2.1 x.2.2.2.2.2.2.1 w) n) (.block 2 (.loop (cd (bodyOf f48) [1, 1, 0, 1, 0, 0, 1, 0, 0, 1, 0, 0]))) :=
    mk_loopN (O := tabL [([1, 1, 0, 1, 0, 0, 1, 0, 0, 1, 0, 0, 1, 0, 0, 1, 0, 1], ref02_Key_columns_l2_se K)]) (root := (bodyOf f48)) (π := [1, 1, 0, 1, 0, 0, 1, 0, 0, 1, 0, 0]) (id := 2) (Li := [(0, .ptr), (4, .addr), (5, .addr), (6, .addr), (7, .addr), (8, .int .i64), (9, .int .i64)]) (Lo := []) (S := (fun n x w => ref02_Key_columns_l1 K n x.1 x.2.1 x.2.2.1 x.2.2.2.1 x.2.2.2.2.1 x.2.2.2.2.2.1 x.2.2.2.2.2.2.1 w)) (body := cd (bodyOf f48) [1, 1, 0, 1, 0, 0, 1, 0, 0, 1, 0, 0]) (ref02_Key_columns_Eok K) (ref02_Key_columns_Rok K) rfl (Orc.cons (by kernel_rfl) (ref02_Key_columns_l2_se_ok K [(9, 12), (16, 51)] (by kernel_rfl)) (Orc.nil _ _ _)) (by kernel_rfl) (fun _ _ => by kernel_rfl) (fun _ _ _ => by kernel_rfl) n
noncomputable def ref02_Key_columns_l1_se (K : Nat) : SE := stmtN [(0, .ptr), (4, .addr), (5, .addr), (6, .addr), (7, .addr), (8, .int .i64), (9, .int .i64)] [] [(9, 12), (16, 51)] (fun x w => ref02_Key_columns_l1 K K x.1 x.2.1 x.2.2.1 x.2.2.2.1 x.2.2.2.2.1 x.2.2.2.2.2.1 x.2.2.2.2.2.2.1 w)
theorem ref02_Key_columns_l1_se_ok (K : Nat) (R : Rg) (h : subRB [(9, 12), (16, 51)] R = true) : (ref02_Key_columns_l1_se K).Ok prog R (.block 2 (.loop (cd (bodyOf f48) [1, 1, 0, 1, 0, 0, 1, 0, 0, 1, 0, 0]))) := stmtN_ok (Li := [(0, .ptr), (4, .addr), (5, .addr), (6, .addr), (7, .addr), (8, .int .i64), (9, .int .i64)]) (Lo := []) (S := (fun x w => ref02_Key_columns_l1 K K x.1 x.2.1 x.2.2.1 x.2.2.2.1 x.2.2.2.2.1 x.2.2.2.2.2.1 x.2.2.2.2.2.2.1 w)) (ref02_Key_columns_l1_ok K K) (subR_of h)
theorem ref02_Key_columns_l0_ok (K : Nat) (n : Nat) : StmtNOk prog [(0, .ptr), (4, .addr), (5, .addr), (6, .addr), (7, .addr), (8, .int .i64)] [] [(8, 51)] ((fun n x w => ref02_Key_columns_l0 K n x.1 x.2.1 x.2.2.1 x.2.2.2.1 x.2.2.2.2.1 x.2.2.2.2.2.1 w) n) (.block 0 (.loop (cd (bodyOf f48) [1, 1, 0, 1, 0, 0]))) :=
    mk_loopN (O := tabL [([1, 1, 0, 1, 0, 0, 1, 0, 0, 1], ref02_Key_columns_l1_se K), ([1, 1, 0, 1, 0, 0, 1, 0, 0, 1, 0, 0, 1, 0, 0, 1, 0, 1], ref02_Key_columns_l2_se K)]) (root := (bodyOf f48)) (π := [1, 1, 0, 1, 0, 0]) (id := 0) (Li := [(0, .ptr), (4, .addr), (5, .addr), (6, .addr), (7, .addr), (8, .int .i64)]) (Lo := []) (S := (fun n x w => ref02_Key_columns_l0 K n x.1 x.2.1 x.2.2.1 x.2.2.2.1 x.2.2.2.2.1 x.2.2.2.2.2.1 w)) (body := cd (bodyOf f48) [1, 1, 0, 1, 0, 0]) (ref02_Key_columns_Eok K) (ref02_Key_columns_Rok K) rfl (Orc.cons (by kernel_rfl) (ref02_Key_columns_l1_se_ok K [(8, 51)] (by kernel_rfl)) (Orc.cons (by kernel_rfl) (ref02_Key_columns_l2_se_ok K [(8, 51)] (by kernel_rfl)) (Orc.nil _ _ _))) (by kernel_rfl) (fun _ _ => by kernel_rfl) (fun _ _ _ => by kernel_rfl) n
noncomputable def ref02_Key_columns_l0_se (K : Nat) : SE := stmtN [(0, .ptr), (4, .addr), (5, .addr), (6, .addr), (7, .addr), (8, .int .i64)] [] [(8, 51)] (fun x w => ref02_Key_columns_l0 K K x.1 x.2.1 x.2.2.1 x.2.2.2.1 x.2.2.2.2.1 x.2.2.2.2.2.1 w)
theorem ref02_Key_columns_l0_se_ok (K : Nat) (R : Rg) (h : subRB [(8, 51)] R = true) : (ref02_Key_columns_l0_se K).Ok prog R (.block 0 (.loop (cd (bodyOf f48) [1, 1, 0, 1, 0, 0]))) := stmtN_ok (Li := [(0, .ptr), (4, .addr), (5, .addr), (6, .addr), (7, .addr), (8, .int .i64)]) (Lo := []) (S := (fun x w => ref02_Key_columns_l0 K K x.1 x.2.1 x.2.2.1 x.2.2.2.1 x.2.2.2.2.1 x.2.2.2.2.2.1 w)) (ref02_Key_columns_l0_ok K K) (subR_of h)
theorem ref02_Key_columns_facts : FunFacts prog 48 f48 (bodyOf f48) [(0, .ptr), (1, .agg), (2, .agg)] [(0, 52)] := ⟨func48, by kernel_rfl, by kernel_rfl, by kernel_rfl, by kernel_rfl, by kernel_rfl⟩
theorem ref02_Key_columns_calls (K : Nat) (x : TT [(0, .ptr), (1, .agg), (2, .agg)]) (w : World) (y : TR [.agg]) (w2 : World) (h : ref02_Key_columns K x.1 x.2.1 x.2.2.1 w = some (y, w2)) : Calls prog 48 (encA [(0, .ptr), (1, .agg), (2, .agg)] x).toArray w (fun e w3 => e = .returned (resV (encR [.agg] y)) ∧ w3 = w2) :=
    mk_fun (O := tabL [([1, 1, 0, 1], ref02_Key_columns_l0_se K), ([1, 1, 0, 1, 0, 0, 1, 0, 0, 1], ref02_Key_columns_l1_se K), ([1, 1, 0, 1, 0, 0, 1, 0, 0, 1, 0, 0, 1, 0, 0, 1, 0, 1], ref02_Key_columns_l2_se K)]) (Lp := [(0, .ptr), (1, .agg), (2, .agg)]) (Rt := [.agg]) (S := (fun x w => ref02_Key_columns K x.1 x.2.1 x.2.2.1 w)) (ref02_Key_columns_Eok K) (ref02_Key_columns_Rok K) rfl ref02_Key_columns_facts (Orc.cons (by kernel_rfl) (ref02_Key_columns_l0_se_ok K [(0, 52)] (by kernel_rfl)) (Orc.cons (by kernel_rfl) (ref02_Key_columns_l1_se_ok K [(0, 52)] (by kernel_rfl)) (Orc.cons (by kernel_rfl) (ref02_Key_columns_l2_se_ok K [(0, 52)] (by kernel_rfl)) (Orc.nil _ _ _)))) (fun _ _ => by kernel_rfl) x w y w2 h
noncomputable def ref02_Key_columns_ce (K : Nat) : CE := funE [(0, .ptr), (1, .agg), (2, .agg)] [.agg] (fun x w => ref02_Key_columns K x.1 x.2.1 x.2.2.1 w)
theorem ref02_Key_columns_ok (K : Nat) : (ref02_Key_columns_ce K).Ok prog 48 := funE_ok (Rt := [.agg]) (S := (fun x w => ref02_Key_columns K x.1 x.2.1 x.2.2.1 w)) ref02_Key_columns_facts fun x w y w2 h => ref02_Key_columns_calls K x w y w2 h

end Go.Sh
