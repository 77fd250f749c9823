/- What functions of the program do, as Lean functions; that the machine does just that. Printed by shal.py, a program of this claim's writer. -/
import Derived.Test.YtcfolhdacolbjaaFwG
import Derived.Test.YtcfolhdacolbjaaProg
set_option maxRecDepth 100000
set_option linter.unusedVariables false
namespace Go.Sh
open Go.Fw Go.Proofs.Try


noncomputable def law04_num_R : List (Nat × RE) := []
theorem law04_num_Rok : REnv.Ok prog (tab (law04_num_R)) := (REnv.nil _)
/-- coffer/cofferlaw04.num -/
noncomputable def law04_num (e0 : Int) : Option (Int × Unit) :=
  some (e0, ())
theorem law04_num_facts : FunFacts prog 6 f6 (bodyOf f6) [(0, .int .i64)] [(0, 4)] := ⟨func6, by kernel_rfl, by kernel_rfl, by kernel_rfl, by kernel_rfl, by kernel_rfl⟩
theorem law04_num_calls (x : TT [(0, .int .i64)]) (w : World) (y : TR [.int .i64]) (h : law04_num x.1 = some y) : Calls prog 6 (encA [(0, .int .i64)] x).toArray w (fun e w3 => e = .returned (resV (encR [.int .i64] y)) ∧ w3 = w) :=
    mk_funQ (O := tabL []) (Lp := [(0, .int .i64)]) (Rt := [.int .i64]) (S := (fun x w => law04_num x.1)) (law04_num_Rok) law04_num_facts (OrcQ.nil _ _ _) (fun _ _ => by kernel_rfl) x w y h
noncomputable def law04_num_re : RE := funR [(0, .int .i64)] [.int .i64] (fun x w => law04_num x.1)
theorem law04_num_ok : (law04_num_re).Ok prog 6 := funR_ok (Rt := [.int .i64]) (S := (fun x w => law04_num x.1)) law04_num_facts fun x w y h => law04_num_calls x w y h

noncomputable def law04_ShredNames_R : List (Nat × RE) := [(6, law04_num_re)]
theorem law04_ShredNames_Rok : REnv.Ok prog (tab (law04_ShredNames_R)) := (REnv.cons (law04_num_ok) (REnv.nil _))
/-- coffer/cofferlaw04.ShredNames -/
noncomputable def law04_ShredNames  : Option (Bool × Unit) :=
  (law04_num 40).bind fun r_1 =>
  if (r_1.1 == 40) = true then ((law04_num 41).bind fun r_2 =>
  if (r_2.1 == 41) = true then ((law04_num 5).bind fun r_3 =>
  if (r_3.1 == 5) = true then ((law04_num 4).bind fun r_4 =>
  some ((r_4.1 == 4), ())) else (some (false, ()))) else (some (false, ()))) else (some (false, ()))
theorem law04_ShredNames_facts : FunFacts prog 3 f3 (bodyOf f3) [] [(0, 17)] := ⟨func3, by kernel_rfl, by kernel_rfl, by kernel_rfl, by kernel_rfl, by kernel_rfl⟩
theorem law04_ShredNames_calls (x : TT []) (w : World) (y : TR [.bool]) (h : law04_ShredNames  = some y) : Calls prog 3 (encA [] x).toArray w (fun e w3 => e = .returned (resV (encR [.bool] y)) ∧ w3 = w) :=
    mk_funQ (O := tabL []) (Lp := []) (Rt := [.bool]) (S := (fun x w => law04_ShredNames )) (law04_ShredNames_Rok) law04_ShredNames_facts (OrcQ.nil _ _ _) (fun _ _ => by kernel_rfl) x w y h
noncomputable def law04_ShredNames_re : RE := funR [] [.bool] (fun x w => law04_ShredNames )
theorem law04_ShredNames_ok : (law04_ShredNames_re).Ok prog 3 := funR_ok (Rt := [.bool]) (S := (fun x w => law04_ShredNames )) law04_ShredNames_facts fun x w y h => law04_ShredNames_calls x w y h

noncomputable def shred_Wipe_E : List (Nat × CE) := []
theorem shred_Wipe_Eok : Env.Ok prog (tab (shred_Wipe_E)) := (Env.nil _)
noncomputable def shred_Wipe_R : List (Nat × RE) := []
theorem shred_Wipe_Rok : REnv.Ok prog (tab (shred_Wipe_R)) := (REnv.nil _)
/-- coffer/shred.Wipe -/
noncomputable def shred_Wipe (b0 : Sl) (w : World) : Option ((Unit) × World) :=
  bnd (clr prog 25 (.slice b0.a b0.len b0.cap) w) fun _ w_2 =>
  some ((), w_2)
theorem shred_Wipe_facts : FunFacts prog 7 f7 (bodyOf f7) [(0, .sl)] [(0, 3)] := ⟨func7, by kernel_rfl, by kernel_rfl, by kernel_rfl, by kernel_rfl, by kernel_rfl⟩
theorem shred_Wipe_calls (x : TT [(0, .sl)]) (w : World) (y : TR []) (w2 : World) (h : shred_Wipe x.1 w = some (y, w2)) : Calls prog 7 (encA [(0, .sl)] x).toArray w (fun e w3 => e = .returned (resV (encR [] y)) ∧ w3 = w2) :=
    mk_fun (O := tabL []) (Lp := [(0, .sl)]) (Rt := []) (S := (fun x w => shred_Wipe x.1 w)) (shred_Wipe_Eok) (shred_Wipe_Rok) rfl shred_Wipe_facts (Orc.nil _ _ _) (fun _ _ => by kernel_rfl) x w y w2 h
noncomputable def shred_Wipe_ce : CE := funE [(0, .sl)] [] (fun x w => shred_Wipe x.1 w)
theorem shred_Wipe_ok : (shred_Wipe_ce).Ok prog 7 := funE_ok (Rt := []) (S := (fun x w => shred_Wipe x.1 w)) shred_Wipe_facts fun x w y w2 h => shred_Wipe_calls x w y w2 h

noncomputable def book_SameBytes_E (K : Nat) : List (Nat × CE) := []
theorem book_SameBytes_Eok (K : Nat) : Env.Ok prog (tab (book_SameBytes_E K)) := (Env.nil _)
noncomputable def book_SameBytes_R (K : Nat) : List (Nat × RE) := []
theorem book_SameBytes_Rok (K : Nat) : REnv.Ok prog (tab (book_SameBytes_R K)) := (REnv.nil _)
noncomputable def book_SameBytes_l0_b (K : Nat) (rec : Sl → Sl → Int → World → Option ((Out (Unit) (Bool × Unit)) × World)) (a0 : Sl) (b1 : Sl) (i5 : Int) (w : World) : Option ((Out (Unit) (Bool × Unit)) × World) :=
  if (decide (i5 < ((a0.len : Nat) : Int))) = true then ((a0.a).bind fun p_1 =>
  if (0 : Int) ≤ i5 ∧ i5 < ((a0.len : Nat) : Int) then ((b1.a).bind fun p_2 =>
  if (0 : Int) ≤ i5 ∧ i5 < ((b1.len : Nat) : Int) then ((ldI .u8 (p_1.add ((Int.toNat i5) * 1)) w.drew).bind fun v_3 =>
  (ldI .u8 (p_2.add ((Int.toNat i5) * 1)) w.drew).bind fun v_4 =>
  if (v_3 != v_4) = true then (some (.ret (false, ()), w.drew)) else (rec a0 b1 (IntKind.i64.wrap (i5 + 1)) w.drew)) else none) else none) else (some (.norm (), w))
noncomputable def book_SameBytes_l0 (K : Nat) (n : Nat) : Sl → Sl → Int → World → Option ((Out (Unit) (Bool × Unit)) × World) := iter (fun _ _ _ _ => none) (book_SameBytes_l0_b K) n
/-- coffer/cofferbook.SameBytes -/
noncomputable def book_SameBytes (K : Nat) (a0 : Sl) (b1 : Sl) (w : World) : Option ((Bool × Unit) × World) :=
  if (((a0.len : Nat) : Int) != ((b1.len : Nat) : Int)) = true then (some ((false, ()), w)) else (bnd (book_SameBytes_l0 K K a0 b1 0 w) fun y_5 w_6 =>
  (match y_5 with
  | .norm z_7n => (some ((true, ()), w_6))
  | .ret z_7r => (some ((z_7r.1, ()), w_6))))
theorem book_SameBytes_l0_ok (K : Nat) (n : Nat) : StmtOk prog [(0, .sl), (1, .sl), (5, .int .i64)] [] [(4, .bool)] [(4, 6), (11, 26)] ((fun n x w => book_SameBytes_l0 K n x.1 x.2.1 x.2.2.1 w) n) (.block 0 (.loop (cd (bodyOf f8) [1, 1, 0, 1, 0, 0]))) :=
    mk_loop (O := tabL []) (root := (bodyOf f8)) (π := [1, 1, 0, 1, 0, 0]) (id := 0) (Li := [(0, .sl), (1, .sl), (5, .int .i64)]) (Lo := []) (Lr := [(4, .bool)]) (S := (fun n x w => book_SameBytes_l0 K n x.1 x.2.1 x.2.2.1 w)) (body := cd (bodyOf f8) [1, 1, 0, 1, 0, 0]) (book_SameBytes_Eok K) (book_SameBytes_Rok K) rfl (Orc.nil _ _ _) (by kernel_rfl) (fun _ _ => by kernel_rfl) (fun _ _ _ => by kernel_rfl) n
noncomputable def book_SameBytes_l0_se (K : Nat) : SE := stmt [(0, .sl), (1, .sl), (5, .int .i64)] [] [(4, .bool)] [(4, 6), (11, 26)] (fun x w => book_SameBytes_l0 K K x.1 x.2.1 x.2.2.1 w)
theorem book_SameBytes_l0_se_ok (K : Nat) (R : Rg) (h : subRB [(4, 6), (11, 26)] R = true) : (book_SameBytes_l0_se K).Ok prog R (.block 0 (.loop (cd (bodyOf f8) [1, 1, 0, 1, 0, 0]))) := stmt_ok (Li := [(0, .sl), (1, .sl), (5, .int .i64)]) (Lo := []) (Lr := [(4, .bool)]) (S := (fun x w => book_SameBytes_l0 K K x.1 x.2.1 x.2.2.1 w)) (book_SameBytes_l0_ok K K) (subR_of h)
theorem book_SameBytes_facts : FunFacts prog 8 f8 (bodyOf f8) [(0, .sl), (1, .sl)] [(0, 26)] := ⟨func8, by kernel_rfl, by kernel_rfl, by kernel_rfl, by kernel_rfl, by kernel_rfl⟩
theorem book_SameBytes_calls (K : Nat) (x : TT [(0, .sl), (1, .sl)]) (w : World) (y : TR [.bool]) (w2 : World) (h : book_SameBytes K x.1 x.2.1 w = some (y, w2)) : Calls prog 8 (encA [(0, .sl), (1, .sl)] x).toArray w (fun e w3 => e = .returned (resV (encR [.bool] y)) ∧ w3 = w2) :=
    mk_fun (O := tabL [([1, 1, 0, 1], book_SameBytes_l0_se K)]) (Lp := [(0, .sl), (1, .sl)]) (Rt := [.bool]) (S := (fun x w => book_SameBytes K x.1 x.2.1 w)) (book_SameBytes_Eok K) (book_SameBytes_Rok K) rfl book_SameBytes_facts (Orc.cons (by kernel_rfl) (book_SameBytes_l0_se_ok K [(0, 26)] (by kernel_rfl)) (Orc.nil _ _ _)) (fun _ _ => by kernel_rfl) x w y w2 h
noncomputable def book_SameBytes_ce (K : Nat) : CE := funE [(0, .sl), (1, .sl)] [.bool] (fun x w => book_SameBytes K x.1 x.2.1 w)
theorem book_SameBytes_ok (K : Nat) : (book_SameBytes_ce K).Ok prog 8 := funE_ok (Rt := [.bool]) (S := (fun x w => book_SameBytes K x.1 x.2.1 w)) book_SameBytes_facts fun x w y w2 h => book_SameBytes_calls K x w y w2 h

noncomputable def law04_ShredWipes_E (K : Nat) : List (Nat × CE) := [(7, shred_Wipe_ce), (8, book_SameBytes_ce K)]
theorem law04_ShredWipes_Eok (K : Nat) : Env.Ok prog (tab (law04_ShredWipes_E K)) := (Env.cons (shred_Wipe_ok) (Env.cons (book_SameBytes_ok K) (Env.nil _)))
noncomputable def law04_ShredWipes_R (K : Nat) : List (Nat × RE) := []
theorem law04_ShredWipes_Rok (K : Nat) : REnv.Ok prog (tab (law04_ShredWipes_R K)) := (REnv.nil _)
noncomputable def law04_ShredWipes_s0 (K : Nat) (b0 : Sl) (n1 : Int) (w : World) : Option ((Bool × Unit) × World) :=
  if (decide (n1 < 0)) = true then (some ((true, ()), w)) else (some (((decide (n1 > ((b0.len : Nat) : Int))), ()), w))
noncomputable def law04_ShredWipes_s1 (K : Nat) (b0 : Sl) (n1 : Int) (a22 : Bool) (w : World) : Option ((Int × Unit) × World) :=
  if a22 = true then (some ((((b0.len : Nat) : Int), ()), w)) else (some ((n1, ()), w))
noncomputable def law04_ShredWipes_l2_b (K : Nat) (rec : Sl → Int → Sl → Int → World → Option ((Out (Unit) (Bool × Unit)) × World)) (b0 : Sl) (n1 : Int) (all5 : Sl) (i6 : Int) (w : World) : Option ((Out (Unit) (Bool × Unit)) × World) :=
  if (decide (i6 < n1)) = true then ((all5.a).bind fun p_13 =>
  if (0 : Int) ≤ i6 ∧ i6 < ((all5.len : Nat) : Int) then ((ldI .u8 (p_13.add ((Int.toNat i6) * 1)) w).bind fun v_14 =>
  if (v_14 != 0) = true then (some (.ret (false, ()), w)) else (rec b0 n1 all5 (IntKind.i64.wrap (i6 + 1)) w)) else none) else (some (.norm (), w))
noncomputable def law04_ShredWipes_l2 (K : Nat) (n : Nat) : Sl → Int → Sl → Int → World → Option ((Out (Unit) (Bool × Unit)) × World) := iter (fun _ _ _ _ _ => none) (law04_ShredWipes_l2_b K) n
/-- coffer/cofferlaw04.ShredWipes -/
noncomputable def law04_ShredWipes (K : Nat) (b0 : Sl) (n1 : Int) (w : World) : Option ((Bool × Unit) × World) :=
  bnd (apd prog 25 25 (.slice none 0 0) (.slice b0.a b0.len b0.cap) w) fun s_1 w_2 =>
  bnd (bldS prog 25 3 #[(0, (.int .u8 9)), (1, (.int .u8 8)), (2, (.int .u8 7))] w_2) fun s_3 w_4 =>
  bnd (apd prog 25 25 (.slice s_1.a s_1.len s_1.cap) (.slice s_3.a s_3.len s_3.cap) w_4) fun s_5 w_6 =>
  bnd (law04_ShredWipes_s0 K b0 n1 w_6) fun y_7 w_8 =>
  bnd (law04_ShredWipes_s1 K b0 n1 y_7.1 w_8) fun y_9 w_10 =>
  if (0 : Int) ≤ y_9.1 ∧ y_9.1 ≤ ((s_5.cap : Nat) : Int) then (bnd (shred_Wipe ⟨(sla s_5.a 0 s_5.cap 1), ((Int.toNat (y_9.1)) - 0), (s_5.cap - 0)⟩ w_10) fun r_11 w_12 =>
  bnd (law04_ShredWipes_l2 K K b0 y_9.1 s_5 0 w_12) fun y_15 w_16 =>
  (match y_15 with
  | .norm z_17n => (if (0 : Int) ≤ y_9.1 ∧ y_9.1 ≤ ((s_5.len : Nat) : Int) then (if (0 : Int) ≤ (IntKind.i64.wrap ((((s_5.len - (Int.toNat (y_9.1))) : Nat) : Int) - 3)) ∧ (IntKind.i64.wrap ((((s_5.len - (Int.toNat (y_9.1))) : Nat) : Int) - 3)) ≤ (((s_5.cap - (Int.toNat (y_9.1))) : Nat) : Int) then (if (0 : Int) ≤ y_9.1 ∧ y_9.1 ≤ ((b0.len : Nat) : Int) then (bnd (book_SameBytes K ⟨(sla (sla s_5.a (Int.toNat (y_9.1)) s_5.cap 1) 0 (s_5.cap - (Int.toNat (y_9.1))) 1), ((Int.toNat ((IntKind.i64.wrap ((((s_5.len - (Int.toNat (y_9.1))) : Nat) : Int) - 3)))) - 0), ((s_5.cap - (Int.toNat (y_9.1))) - 0)⟩ ⟨(sla b0.a (Int.toNat (y_9.1)) b0.cap 1), (b0.len - (Int.toNat (y_9.1))), (b0.cap - (Int.toNat (y_9.1)))⟩ w_16.drew) fun r_18 w_19 =>
  if r_18.1 = true then (if (0 : Int) ≤ (IntKind.i64.wrap ((((s_5.len - (Int.toNat (y_9.1))) : Nat) : Int) - 3)) ∧ (IntKind.i64.wrap ((((s_5.len - (Int.toNat (y_9.1))) : Nat) : Int) - 3)) ≤ (((s_5.len - (Int.toNat (y_9.1))) : Nat) : Int) then (bnd (bldS prog 25 3 #[(0, (.int .u8 9)), (1, (.int .u8 8)), (2, (.int .u8 7))] w_19) fun s_20 w_21 =>
  bnd (book_SameBytes K ⟨(sla (sla s_5.a (Int.toNat (y_9.1)) s_5.cap 1) (Int.toNat ((IntKind.i64.wrap ((((s_5.len - (Int.toNat (y_9.1))) : Nat) : Int) - 3)))) (s_5.cap - (Int.toNat (y_9.1))) 1), ((s_5.len - (Int.toNat (y_9.1))) - (Int.toNat ((IntKind.i64.wrap ((((s_5.len - (Int.toNat (y_9.1))) : Nat) : Int) - 3))))), ((s_5.cap - (Int.toNat (y_9.1))) - (Int.toNat ((IntKind.i64.wrap ((((s_5.len - (Int.toNat (y_9.1))) : Nat) : Int) - 3)))))⟩ s_20 w_21) fun r_22 w_23 =>
  some ((r_22.1, ()), w_23)) else none) else (some ((false, ()), w_19))) else none) else none) else none)
  | .ret z_17r => (some ((z_17r.1, ()), w_16)))) else none
theorem law04_ShredWipes_s0_ok (K : Nat) : StmtNOk prog [(0, .sl), (1, .int .i64)] [(22, .bool)] [(15, 23)] (fun x w => law04_ShredWipes_s0 K x.1 x.2.1 w) (cd (bodyOf f4) [1, 1, 1, 1, 0, 0]) :=
    mk_stmtN (O := tabL []) (root := (bodyOf f4)) (π := [1, 1, 1, 1, 0, 0]) (Li := [(0, .sl), (1, .int .i64)]) (Lo := [(22, .bool)]) (S := (fun x w => law04_ShredWipes_s0 K x.1 x.2.1 w)) (law04_ShredWipes_Eok K) (law04_ShredWipes_Rok K) rfl (Orc.nil _ _ _) (by kernel_rfl) (fun _ _ => by kernel_rfl)
noncomputable def law04_ShredWipes_s0_se (K : Nat) : SE := stmtN [(0, .sl), (1, .int .i64)] [(22, .bool)] [(15, 23)] (fun x w => law04_ShredWipes_s0 K x.1 x.2.1 w)
theorem law04_ShredWipes_s0_se_ok (K : Nat) (R : Rg) (h : subRB [(15, 23)] R = true) : (law04_ShredWipes_s0_se K).Ok prog R (cd (bodyOf f4) [1, 1, 1, 1, 0, 0]) := stmtN_ok (Li := [(0, .sl), (1, .int .i64)]) (Lo := [(22, .bool)]) (S := (fun x w => law04_ShredWipes_s0 K x.1 x.2.1 w)) (law04_ShredWipes_s0_ok K) (subR_of h)
theorem law04_ShredWipes_s1_ok (K : Nat) : StmtNOk prog [(0, .sl), (1, .int .i64), (22, .bool)] [(1, .int .i64)] [(1, 2), (23, 25)] (fun x w => law04_ShredWipes_s1 K x.1 x.2.1 x.2.2.1 w) (cd (bodyOf f4) [1, 1, 1, 1, 0, 1]) :=
    mk_stmtN (O := tabL []) (root := (bodyOf f4)) (π := [1, 1, 1, 1, 0, 1]) (Li := [(0, .sl), (1, .int .i64), (22, .bool)]) (Lo := [(1, .int .i64)]) (S := (fun x w => law04_ShredWipes_s1 K x.1 x.2.1 x.2.2.1 w)) (law04_ShredWipes_Eok K) (law04_ShredWipes_Rok K) rfl (Orc.nil _ _ _) (by kernel_rfl) (fun _ _ => by kernel_rfl)
noncomputable def law04_ShredWipes_s1_se (K : Nat) : SE := stmtN [(0, .sl), (1, .int .i64), (22, .bool)] [(1, .int .i64)] [(1, 2), (23, 25)] (fun x w => law04_ShredWipes_s1 K x.1 x.2.1 x.2.2.1 w)
theorem law04_ShredWipes_s1_se_ok (K : Nat) (R : Rg) (h : subRB [(1, 2), (23, 25)] R = true) : (law04_ShredWipes_s1_se K).Ok prog R (cd (bodyOf f4) [1, 1, 1, 1, 0, 1]) := stmtN_ok (Li := [(0, .sl), (1, .int .i64), (22, .bool)]) (Lo := [(1, .int .i64)]) (S := (fun x w => law04_ShredWipes_s1 K x.1 x.2.1 x.2.2.1 w)) (law04_ShredWipes_s1_ok K) (subR_of h)
theorem law04_ShredWipes_l2_ok (K : Nat) (n : Nat) : StmtOk prog [(0, .sl), (1, .int .i64), (5, .sl), (6, .int .i64)] [] [(4, .bool)] [(4, 5), (6, 7), (29, 39)] ((fun n x w => law04_ShredWipes_l2 K n x.1 x.2.1 x.2.2.1 x.2.2.2.1 w) n) (.block 0 (.loop (cd (bodyOf f4) [1, 1, 1, 1, 1, 1, 0, 1, 0, 0]))) :=
    mk_loop (O := tabL []) (root := (bodyOf f4)) (π := [1, 1, 1, 1, 1, 1, 0, 1, 0, 0]) (id := 0) (Li := [(0, .sl), (1, .int .i64), (5, .sl), (6, .int .i64)]) (Lo := []) (Lr := [(4, .bool)]) (S := (fun n x w => law04_ShredWipes_l2 K n x.1 x.2.1 x.2.2.1 x.2.2.2.1 w)) (body := cd (bodyOf f4) [1, 1, 1, 1, 1, 1, 0, 1, 0, 0]) (law04_ShredWipes_Eok K) (law04_ShredWipes_Rok K) rfl (Orc.nil _ _ _) (by kernel_rfl) (fun _ _ => by kernel_rfl) (fun _ _ _ => by kernel_rfl) n
noncomputable def law04_ShredWipes_l2_se (K : Nat) : SE := stmt [(0, .sl), (1, .int .i64), (5, .sl), (6, .int .i64)] [] [(4, .bool)] [(4, 5), (6, 7), (29, 39)] (fun x w => law04_ShredWipes_l2 K K x.1 x.2.1 x.2.2.1 x.2.2.2.1 w)
theorem law04_ShredWipes_l2_se_ok (K : Nat) (R : Rg) (h : subRB [(4, 5), (6, 7), (29, 39)] R = true) : (law04_ShredWipes_l2_se K).Ok prog R (.block 0 (.loop (cd (bodyOf f4) [1, 1, 1, 1, 1, 1, 0, 1, 0, 0]))) := stmt_ok (Li := [(0, .sl), (1, .int .i64), (5, .sl), (6, .int .i64)]) (Lo := []) (Lr := [(4, .bool)]) (S := (fun x w => law04_ShredWipes_l2 K K x.1 x.2.1 x.2.2.1 x.2.2.2.1 w)) (law04_ShredWipes_l2_ok K K) (subR_of h)
theorem law04_ShredWipes_facts : FunFacts prog 4 f4 (bodyOf f4) [(0, .sl), (1, .int .i64)] [(0, 59)] := ⟨func4, by kernel_rfl, by kernel_rfl, by kernel_rfl, by kernel_rfl, by kernel_rfl⟩
theorem law04_ShredWipes_calls (K : Nat) (x : TT [(0, .sl), (1, .int .i64)]) (w : World) (y : TR [.bool]) (w2 : World) (h : law04_ShredWipes K x.1 x.2.1 w = some (y, w2)) : Calls prog 4 (encA [(0, .sl), (1, .int .i64)] x).toArray w (fun e w3 => e = .returned (resV (encR [.bool] y)) ∧ w3 = w2) :=
    mk_fun (O := tabL [([1, 1, 1, 1, 0, 0], law04_ShredWipes_s0_se K), ([1, 1, 1, 1, 0, 1], law04_ShredWipes_s1_se K), ([1, 1, 1, 1, 1, 1, 0, 1], law04_ShredWipes_l2_se K)]) (Lp := [(0, .sl), (1, .int .i64)]) (Rt := [.bool]) (S := (fun x w => law04_ShredWipes K x.1 x.2.1 w)) (law04_ShredWipes_Eok K) (law04_ShredWipes_Rok K) rfl law04_ShredWipes_facts (Orc.cons (by kernel_rfl) (law04_ShredWipes_s0_se_ok K [(0, 59)] (by kernel_rfl)) (Orc.cons (by kernel_rfl) (law04_ShredWipes_s1_se_ok K [(0, 59)] (by kernel_rfl)) (Orc.cons (by kernel_rfl) (law04_ShredWipes_l2_se_ok K [(0, 59)] (by kernel_rfl)) (Orc.nil _ _ _)))) (fun _ _ => by kernel_rfl) x w y w2 h
noncomputable def law04_ShredWipes_ce (K : Nat) : CE := funE [(0, .sl), (1, .int .i64)] [.bool] (fun x w => law04_ShredWipes K x.1 x.2.1 w)
theorem law04_ShredWipes_ok (K : Nat) : (law04_ShredWipes_ce K).Ok prog 4 := funE_ok (Rt := [.bool]) (S := (fun x w => law04_ShredWipes K x.1 x.2.1 w)) law04_ShredWipes_facts fun x w y w2 h => law04_ShredWipes_calls K x w y w2 h

noncomputable def shred_Random_R : List (Nat × RE) := []
theorem shred_Random_Rok : REnv.Ok prog (tab (shred_Random_R)) := (REnv.nil _)
noncomputable def shred_Random_s0 (size0 : Int) (stripes1 : Int) : Option (Out (Unit) (Int × Int × Unit)) :=
  if (decide (size0 < 1)) = true then (some (.ret (0, 5, ()))) else (if (decide (size0 > 1024)) = true then (some (.ret (0, 4, ()))) else (if (decide (stripes1 < 1)) = true then (some (.ret (0, 40, ()))) else (if (decide (stripes1 > 4000)) = true then (some (.ret (0, 40, ()))) else (some (.norm ())))))
/-- coffer/shred.Random -/
noncomputable def shred_Random (size0 : Int) (stripes1 : Int) : Option (Int × Int × Unit) :=
  (shred_Random_s0 size0 stripes1).bind fun y_1 =>
  (match y_1 with
  | .norm z_2n => (some ((IntKind.i64.wrap (size0 * (IntKind.i64.wrap (stripes1 - 1)))), 0, ()))
  | .ret z_2r => (some (z_2r.1, z_2r.2.1, ())))
theorem shred_Random_s0_ok : StmtQOk prog [(0, .int .i64), (1, .int .i64)] [] [(4, .int .i64), (5, .int .i64)] [(4, 19)] (fun x w => shred_Random_s0 x.1 x.2.1) (cd (bodyOf f9) [1, 0]) :=
    mk_stmtQ (O := tabL []) (root := (bodyOf f9)) (π := [1, 0]) (Li := [(0, .int .i64), (1, .int .i64)]) (Lo := []) (Lr := [(4, .int .i64), (5, .int .i64)]) (S := (fun x w => shred_Random_s0 x.1 x.2.1)) (shred_Random_Rok) (OrcQ.nil _ _ _) (by kernel_rfl) (fun _ _ => by kernel_rfl)
noncomputable def shred_Random_s0_se : SQ := stmtQ [(0, .int .i64), (1, .int .i64)] [] [(4, .int .i64), (5, .int .i64)] [(4, 19)] (fun x w => shred_Random_s0 x.1 x.2.1)
theorem shred_Random_s0_se_ok (R : Rg) (h : subRB [(4, 19)] R = true) : (shred_Random_s0_se).Ok prog R (cd (bodyOf f9) [1, 0]) := stmtQ_ok (Li := [(0, .int .i64), (1, .int .i64)]) (Lo := []) (Lr := [(4, .int .i64), (5, .int .i64)]) (S := (fun x w => shred_Random_s0 x.1 x.2.1)) (shred_Random_s0_ok) (subR_of h)
theorem shred_Random_facts : FunFacts prog 9 f9 (bodyOf f9) [(0, .int .i64), (1, .int .i64)] [(0, 23)] := ⟨func9, by kernel_rfl, by kernel_rfl, by kernel_rfl, by kernel_rfl, by kernel_rfl⟩
theorem shred_Random_calls (x : TT [(0, .int .i64), (1, .int .i64)]) (w : World) (y : TR [.int .i64, .int .i64]) (h : shred_Random x.1 x.2.1 = some y) : Calls prog 9 (encA [(0, .int .i64), (1, .int .i64)] x).toArray w (fun e w3 => e = .returned (resV (encR [.int .i64, .int .i64] y)) ∧ w3 = w) :=
    mk_funQ (O := tabL [([1, 0], shred_Random_s0_se)]) (Lp := [(0, .int .i64), (1, .int .i64)]) (Rt := [.int .i64, .int .i64]) (S := (fun x w => shred_Random x.1 x.2.1)) (shred_Random_Rok) shred_Random_facts (OrcQ.cons (by kernel_rfl) (shred_Random_s0_se_ok [(0, 23)] (by kernel_rfl)) (OrcQ.nil _ _ _)) (fun _ _ => by kernel_rfl) x w y h
noncomputable def shred_Random_re : RE := funR [(0, .int .i64), (1, .int .i64)] [.int .i64, .int .i64] (fun x w => shred_Random x.1 x.2.1)
theorem shred_Random_ok : (shred_Random_re).Ok prog 9 := funR_ok (Rt := [.int .i64, .int .i64]) (S := (fun x w => shred_Random x.1 x.2.1)) shred_Random_facts fun x w y h => shred_Random_calls x w y h

noncomputable def ref04_Random_R : List (Nat × RE) := []
theorem ref04_Random_Rok : REnv.Ok prog (tab (ref04_Random_R)) := (REnv.nil _)
noncomputable def ref04_Random_s0 (stripes1 : Int) : Option (Out (Bool × Unit) (Int × Int × Unit)) :=
  if (decide (stripes1 < 1)) = true then (some (.norm (true, ()))) else (some (.norm ((decide (stripes1 > 4000)), ())))
/-- coffer/cofferref04.Random -/
noncomputable def ref04_Random (size0 : Int) (stripes1 : Int) : Option (Int × Int × Unit) :=
  if (decide (size0 < 1)) = true then (some (0, 5, ())) else (if (decide (size0 > 1024)) = true then (some (0, 4, ())) else ((ref04_Random_s0 stripes1).bind fun y_1 =>
  (match y_1 with
  | .norm z_2n => (if z_2n.1 = true then (some (0, 40, ())) else (some ((IntKind.i64.wrap (size0 * (IntKind.i64.wrap (stripes1 - 1)))), 0, ())))
  | .ret z_2r => (some (z_2r.1, z_2r.2.1, ())))))
theorem ref04_Random_s0_ok : StmtQOk prog [(1, .int .i64)] [(15, .bool)] [(4, .int .i64), (5, .int .i64)] [(10, 16)] (fun x w => ref04_Random_s0 x.1) (cd (bodyOf f10) [1, 1, 1, 0, 0]) :=
    mk_stmtQ (O := tabL []) (root := (bodyOf f10)) (π := [1, 1, 1, 0, 0]) (Li := [(1, .int .i64)]) (Lo := [(15, .bool)]) (Lr := [(4, .int .i64), (5, .int .i64)]) (S := (fun x w => ref04_Random_s0 x.1)) (ref04_Random_Rok) (OrcQ.nil _ _ _) (by kernel_rfl) (fun _ _ => by kernel_rfl)
noncomputable def ref04_Random_s0_se : SQ := stmtQ [(1, .int .i64)] [(15, .bool)] [(4, .int .i64), (5, .int .i64)] [(10, 16)] (fun x w => ref04_Random_s0 x.1)
theorem ref04_Random_s0_se_ok (R : Rg) (h : subRB [(10, 16)] R = true) : (ref04_Random_s0_se).Ok prog R (cd (bodyOf f10) [1, 1, 1, 0, 0]) := stmtQ_ok (Li := [(1, .int .i64)]) (Lo := [(15, .bool)]) (Lr := [(4, .int .i64), (5, .int .i64)]) (S := (fun x w => ref04_Random_s0 x.1)) (ref04_Random_s0_ok) (subR_of h)
theorem ref04_Random_facts : FunFacts prog 10 f10 (bodyOf f10) [(0, .int .i64), (1, .int .i64)] [(0, 20)] := ⟨func10, by kernel_rfl, by kernel_rfl, by kernel_rfl, by kernel_rfl, by kernel_rfl⟩
theorem ref04_Random_calls (x : TT [(0, .int .i64), (1, .int .i64)]) (w : World) (y : TR [.int .i64, .int .i64]) (h : ref04_Random x.1 x.2.1 = some y) : Calls prog 10 (encA [(0, .int .i64), (1, .int .i64)] x).toArray w (fun e w3 => e = .returned (resV (encR [.int .i64, .int .i64] y)) ∧ w3 = w) :=
    mk_funQ (O := tabL [([1, 1, 1, 0, 0], ref04_Random_s0_se)]) (Lp := [(0, .int .i64), (1, .int .i64)]) (Rt := [.int .i64, .int .i64]) (S := (fun x w => ref04_Random x.1 x.2.1)) (ref04_Random_Rok) ref04_Random_facts (OrcQ.cons (by kernel_rfl) (ref04_Random_s0_se_ok [(0, 20)] (by kernel_rfl)) (OrcQ.nil _ _ _)) (fun _ _ => by kernel_rfl) x w y h
noncomputable def ref04_Random_re : RE := funR [(0, .int .i64), (1, .int .i64)] [.int .i64, .int .i64] (fun x w => ref04_Random x.1 x.2.1)
theorem ref04_Random_ok : (ref04_Random_re).Ok prog 10 := funR_ok (Rt := [.int .i64, .int .i64]) (S := (fun x w => ref04_Random x.1 x.2.1)) ref04_Random_facts fun x w y h => ref04_Random_calls x w y h

noncomputable def law04_ShredRandoms_R : List (Nat × RE) := [(9, shred_Random_re), (10, ref04_Random_re), (6, law04_num_re)]
theorem law04_ShredRandoms_Rok : REnv.Ok prog (tab (law04_ShredRandoms_R)) := (REnv.cons (shred_Random_ok) (REnv.cons (ref04_Random_ok) (REnv.cons (law04_num_ok) (REnv.nil _))))
/-- coffer/cofferlaw04.ShredRandoms -/
noncomputable def law04_ShredRandoms (size0 : Int) (stripes1 : Int) : Option (Bool × Unit) :=
  (shred_Random size0 stripes1).bind fun r_1 =>
  (ref04_Random size0 stripes1).bind fun r_2 =>
  (shred_Random 32 4000).bind fun r_3 =>
  if (r_1.1 == r_2.1) = true then ((law04_num r_1.2.1).bind fun r_4 =>
  if (r_4.1 == r_2.2.1) = true then (if (r_3.1 == 127968) = true then ((law04_num r_3.2.1).bind fun r_5 =>
  some ((r_5.1 == 0), ())) else (some (false, ()))) else (some (false, ()))) else (some (false, ()))
theorem law04_ShredRandoms_facts : FunFacts prog 5 f5 (bodyOf f5) [(0, .int .i64), (1, .int .i64)] [(0, 45)] := ⟨func5, by kernel_rfl, by kernel_rfl, by kernel_rfl, by kernel_rfl, by kernel_rfl⟩
theorem law04_ShredRandoms_calls (x : TT [(0, .int .i64), (1, .int .i64)]) (w : World) (y : TR [.bool]) (h : law04_ShredRandoms x.1 x.2.1 = some y) : Calls prog 5 (encA [(0, .int .i64), (1, .int .i64)] x).toArray w (fun e w3 => e = .returned (resV (encR [.bool] y)) ∧ w3 = w) :=
    mk_funQ (O := tabL []) (Lp := [(0, .int .i64), (1, .int .i64)]) (Rt := [.bool]) (S := (fun x w => law04_ShredRandoms x.1 x.2.1)) (law04_ShredRandoms_Rok) law04_ShredRandoms_facts (OrcQ.nil _ _ _) (fun _ _ => by kernel_rfl) x w y h
noncomputable def law04_ShredRandoms_re : RE := funR [(0, .int .i64), (1, .int .i64)] [.bool] (fun x w => law04_ShredRandoms x.1 x.2.1)
theorem law04_ShredRandoms_ok : (law04_ShredRandoms_re).Ok prog 5 := funR_ok (Rt := [.bool]) (S := (fun x w => law04_ShredRandoms x.1 x.2.1)) law04_ShredRandoms_facts fun x w y h => law04_ShredRandoms_calls x w y h

end Go.Sh
