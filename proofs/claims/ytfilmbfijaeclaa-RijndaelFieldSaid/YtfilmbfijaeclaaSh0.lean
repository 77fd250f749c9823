/- What functions of the program do, as Lean functions; that the machine does just that. Printed by shal.py, a program of this claim's writer. -/
import Derived.Test.YtfilmbfijaeclaaFwH
import Derived.Test.YtfilmbfijaeclaaProg
set_option maxRecDepth 100000
set_option linter.unusedVariables false
namespace Go.Sh
open Go.Fw Go.Proofs.Try
def z27 : Array Value := Array.replicate 256 (.int .u8 0)

noncomputable def law02_RijndaelNames_R : List (Nat × RE) := []
theorem law02_RijndaelNames_Rok : REnv.Ok prog (tab (law02_RijndaelNames_R)) := (REnv.nil _)
/-- coffer/cofferlaw02.RijndaelNames -/
noncomputable def law02_RijndaelNames  : Option (Bool × Unit) :=
  some (true, ())
theorem law02_RijndaelNames_facts : FunFacts prog 3 f3 (bodyOf f3) [] [(0, 1)] := ⟨func3, by kernel_rfl, by kernel_rfl, by kernel_rfl, by kernel_rfl, by kernel_rfl⟩
theorem law02_RijndaelNames_calls (x : TT []) (w : World) (y : TR [.bool]) (h : law02_RijndaelNames  = some y) : Calls prog 3 (encA [] x).toArray w (fun e w3 => e = .returned (resV (encR [.bool] y)) ∧ w3 = w) :=
    mk_funQ (O := tabL []) (Lp := []) (Rt := [.bool]) (S := (fun x w => law02_RijndaelNames )) (law02_RijndaelNames_Rok) law02_RijndaelNames_facts (OrcQ.nil _ _ _) (fun _ _ => by kernel_rfl) x w y h
noncomputable def law02_RijndaelNames_re : RE := funR [] [.bool] (fun x w => law02_RijndaelNames )
theorem law02_RijndaelNames_ok : (law02_RijndaelNames_re).Ok prog 3 := funR_ok (Rt := [.bool]) (S := (fun x w => law02_RijndaelNames )) law02_RijndaelNames_facts fun x w y h => law02_RijndaelNames_calls x w y h

noncomputable def rijndael_Times_R (K : Nat) : List (Nat × RE) := []
theorem rijndael_Times_Rok (K : Nat) : REnv.Ok prog (tab (rijndael_Times_R K)) := (REnv.nil _)
noncomputable def rijndael_Times_s1 (K : Nat) (a0 : Int) (p5 : Int) (a11 : Bool) : Option (Out (Int × Unit) (Int × Unit)) :=
  if a11 = true then (some (.norm ((bits .xor .u8 p5 a0), ()))) else (some (.norm (p5, ())))
noncomputable def rijndael_Times_l0_b (K : Nat) (rec : Int → Int → Int → Option (Out (Int × Unit) (Int × Unit))) (a0 : Int) (b1 : Int) (p5 : Int) : Option (Out (Int × Unit) (Int × Unit)) :=
  if (b1 != 0) = true then ((rijndael_Times_s1 K a0 p5 ((bits .and .u8 b1 1) != 0)).bind fun y_1 =>
  (match y_1 with
  | .norm z_2n => (if ((bits .and .u8 a0 128) != 0) = true then (rec (bits .xor .u8 (IntKind.u8.wrap (a0 * 2 ^ 1)) 27) (Int.fdiv b1 (2 ^ 1)) z_2n.1) else (rec (IntKind.u8.wrap (a0 * 2 ^ 1)) (Int.fdiv b1 (2 ^ 1)) z_2n.1))
  | .ret z_2r => (some (.ret (z_2r.1, ()))))) else (some (.norm (p5, ())))
noncomputable def rijndael_Times_l0 (K : Nat) (n : Nat) : Int → Int → Int → Option (Out (Int × Unit) (Int × Unit)) := iter (fun _ _ _ => none) (rijndael_Times_l0_b K) n
/-- coffer/rijndael.Times -/
noncomputable def rijndael_Times (K : Nat) (a0 : Int) (b1 : Int) : Option (Int × Unit) :=
  (rijndael_Times_l0 K K a0 b1 0).bind fun y_3 =>
  (match y_3 with
  | .norm z_4n => (some (z_4n.1, ()))
  | .ret z_4r => (some (z_4r.1, ())))
theorem rijndael_Times_s1_ok (K : Nat) : StmtQOk prog [(0, .int .u8), (5, .int .u8), (11, .bool)] [(5, .int .u8)] [(4, .int .u8)] [(5, 6), (12, 15)] (fun x w => rijndael_Times_s1 K x.1 x.2.1 x.2.2.1) (cd (bodyOf f5) [1, 1, 0, 0, 0, 1, 0, 0, 1]) :=
    mk_stmtQ (O := tabL []) (root := (bodyOf f5)) (π := [1, 1, 0, 0, 0, 1, 0, 0, 1]) (Li := [(0, .int .u8), (5, .int .u8), (11, .bool)]) (Lo := [(5, .int .u8)]) (Lr := [(4, .int .u8)]) (S := (fun x w => rijndael_Times_s1 K x.1 x.2.1 x.2.2.1)) (rijndael_Times_Rok K) (OrcQ.nil _ _ _) (by kernel_rfl) (fun _ _ => by kernel_rfl)
noncomputable def rijndael_Times_s1_se (K : Nat) : SQ := stmtQ [(0, .int .u8), (5, .int .u8), (11, .bool)] [(5, .int .u8)] [(4, .int .u8)] [(5, 6), (12, 15)] (fun x w => rijndael_Times_s1 K x.1 x.2.1 x.2.2.1)
theorem rijndael_Times_s1_se_ok (K : Nat) (R : Rg) (h : subRB [(5, 6), (12, 15)] R = true) : (rijndael_Times_s1_se K).Ok prog R (cd (bodyOf f5) [1, 1, 0, 0, 0, 1, 0, 0, 1]) := stmtQ_ok (Li := [(0, .int .u8), (5, .int .u8), (11, .bool)]) (Lo := [(5, .int .u8)]) (Lr := [(4, .int .u8)]) (S := (fun x w => rijndael_Times_s1 K x.1 x.2.1 x.2.2.1)) (rijndael_Times_s1_ok K) (subR_of h)
theorem rijndael_Times_l0_ok (K : Nat) (n : Nat) : StmtQOk prog [(0, .int .u8), (1, .int .u8), (5, .int .u8)] [(5, .int .u8)] [(4, .int .u8)] [(0, 2), (5, 25)] ((fun n x w => rijndael_Times_l0 K n x.1 x.2.1 x.2.2.1) n) (.block 0 (.loop (cd (bodyOf f5) [1, 1, 0, 0, 0]))) :=
    mk_loopQ (O := tabL [([1, 1, 0, 0, 0, 1, 0, 0, 1], rijndael_Times_s1_se K)]) (root := (bodyOf f5)) (π := [1, 1, 0, 0, 0]) (id := 0) (Li := [(0, .int .u8), (1, .int .u8), (5, .int .u8)]) (Lo := [(5, .int .u8)]) (Lr := [(4, .int .u8)]) (S := (fun n x w => rijndael_Times_l0 K n x.1 x.2.1 x.2.2.1)) (body := cd (bodyOf f5) [1, 1, 0, 0, 0]) (rijndael_Times_Rok K) (OrcQ.cons (by kernel_rfl) (rijndael_Times_s1_se_ok K [(0, 2), (5, 25)] (by kernel_rfl)) (OrcQ.nil _ _ _)) (by kernel_rfl) (fun _ _ => by kernel_rfl) (fun _ _ _ => by kernel_rfl) n
noncomputable def rijndael_Times_l0_se (K : Nat) : SQ := stmtQ [(0, .int .u8), (1, .int .u8), (5, .int .u8)] [(5, .int .u8)] [(4, .int .u8)] [(0, 2), (5, 25)] (fun x w => rijndael_Times_l0 K K x.1 x.2.1 x.2.2.1)
theorem rijndael_Times_l0_se_ok (K : Nat) (R : Rg) (h : subRB [(0, 2), (5, 25)] R = true) : (rijndael_Times_l0_se K).Ok prog R (.block 0 (.loop (cd (bodyOf f5) [1, 1, 0, 0, 0]))) := stmtQ_ok (Li := [(0, .int .u8), (1, .int .u8), (5, .int .u8)]) (Lo := [(5, .int .u8)]) (Lr := [(4, .int .u8)]) (S := (fun x w => rijndael_Times_l0 K K x.1 x.2.1 x.2.2.1)) (rijndael_Times_l0_ok K K) (subR_of h)
theorem rijndael_Times_facts : FunFacts prog 5 f5 (bodyOf f5) [(0, .int .u8), (1, .int .u8)] [(0, 26)] := ⟨func5, by kernel_rfl, by kernel_rfl, by kernel_rfl, by kernel_rfl, by kernel_rfl⟩
theorem rijndael_Times_calls (K : Nat) (x : TT [(0, .int .u8), (1, .int .u8)]) (w : World) (y : TR [.int .u8]) (h : rijndael_Times K x.1 x.2.1 = some y) : Calls prog 5 (encA [(0, .int .u8), (1, .int .u8)] x).toArray w (fun e w3 => e = .returned (resV (encR [.int .u8] y)) ∧ w3 = w) :=
    mk_funQ (O := tabL [([1, 1, 0], rijndael_Times_l0_se K), ([1, 1, 0, 0, 0, 1, 0, 0, 1], rijndael_Times_s1_se K)]) (Lp := [(0, .int .u8), (1, .int .u8)]) (Rt := [.int .u8]) (S := (fun x w => rijndael_Times K x.1 x.2.1)) (rijndael_Times_Rok K) rijndael_Times_facts (OrcQ.cons (by kernel_rfl) (rijndael_Times_l0_se_ok K [(0, 26)] (by kernel_rfl)) (OrcQ.cons (by kernel_rfl) (rijndael_Times_s1_se_ok K [(0, 26)] (by kernel_rfl)) (OrcQ.nil _ _ _))) (fun _ _ => by kernel_rfl) x w y h
noncomputable def rijndael_Times_re (K : Nat) : RE := funR [(0, .int .u8), (1, .int .u8)] [.int .u8] (fun x w => rijndael_Times K x.1 x.2.1)
theorem rijndael_Times_ok (K : Nat) : (rijndael_Times_re K).Ok prog 5 := funR_ok (Rt := [.int .u8]) (S := (fun x w => rijndael_Times K x.1 x.2.1)) rijndael_Times_facts fun x w y h => rijndael_Times_calls K x w y h

noncomputable def ref02_Times_R (K : Nat) : List (Nat × RE) := []
theorem ref02_Times_Rok (K : Nat) : REnv.Ok prog (tab (ref02_Times_R K)) := (REnv.nil _)
noncomputable def ref02_Times_l0_b (K : Nat) (rec : Int → Int → Int → Int → Option (Out (Int × Unit) (Int × Unit))) (a0 : Int) (b1 : Int) (p5 : Int) (i6 : Int) : Option (Out (Int × Unit) (Int × Unit)) :=
  if (decide (i6 < 8)) = true then (if (0 : Int) ≤ (IntKind.u64.wrap i6) then (if ((Int.tmod (Int.fdiv (IntKind.i64.wrap b1) (2 ^ (min (Int.toNat (IntKind.u64.wrap i6)) IntKind.i64.bits))) 2) == 1) = true then (if (0 : Int) ≤ (IntKind.u64.wrap i6) then (rec a0 b1 (bits .xor .i64 p5 (IntKind.i64.wrap ((IntKind.i64.wrap a0) * 2 ^ (min (Int.toNat (IntKind.u64.wrap i6)) IntKind.i64.bits)))) (IntKind.i64.wrap (i6 + 1))) else none) else (rec a0 b1 p5 (IntKind.i64.wrap (i6 + 1)))) else none) else (some (.norm (p5, ())))
noncomputable def ref02_Times_l0 (K : Nat) (n : Nat) : Int → Int → Int → Int → Option (Out (Int × Unit) (Int × Unit)) := iter (fun _ _ _ _ => none) (ref02_Times_l0_b K) n
noncomputable def ref02_Times_l1_b (K : Nat) (rec : Int → Int → Option (Out (Int × Unit) (Int × Unit))) (p5 : Int) (i7 : Int) : Option (Out (Int × Unit) (Int × Unit)) :=
  if (decide (i7 ≥ 8)) = true then (if (0 : Int) ≤ (IntKind.u64.wrap i7) then (if ((Int.tmod (Int.fdiv p5 (2 ^ (min (Int.toNat (IntKind.u64.wrap i7)) IntKind.i64.bits))) 2) == 1) = true then (if (0 : Int) ≤ (IntKind.u64.wrap (IntKind.i64.wrap (i7 - 8))) then (rec (bits .xor .i64 p5 (IntKind.i64.wrap (283 * 2 ^ (min (Int.toNat (IntKind.u64.wrap (IntKind.i64.wrap (i7 - 8)))) IntKind.i64.bits)))) (IntKind.i64.wrap (i7 - 1))) else none) else (rec p5 (IntKind.i64.wrap (i7 - 1)))) else none) else (some (.norm (p5, ())))
noncomputable def ref02_Times_l1 (K : Nat) (n : Nat) : Int → Int → Option (Out (Int × Unit) (Int × Unit)) := iter (fun _ _ => none) (ref02_Times_l1_b K) n
/-- coffer/cofferref02.Times -/
noncomputable def ref02_Times (K : Nat) (a0 : Int) (b1 : Int) : Option (Int × Unit) :=
  (ref02_Times_l0 K K a0 b1 0 0).bind fun y_1 =>
  (match y_1 with
  | .norm z_2n => ((ref02_Times_l1 K K z_2n.1 14).bind fun y_3 =>
  (match y_3 with
  | .norm z_4n => (some ((IntKind.u8.wrap z_4n.1), ()))
  | .ret z_4r => (some (z_4r.1, ()))))
  | .ret z_2r => (some (z_2r.1, ())))
theorem ref02_Times_l0_ok (K : Nat) (n : Nat) : StmtQOk prog [(0, .int .u8), (1, .int .u8), (5, .int .i64), (6, .int .i64)] [(5, .int .i64)] [(4, .int .u8)] [(5, 7), (8, 26)] ((fun n x w => ref02_Times_l0 K n x.1 x.2.1 x.2.2.1 x.2.2.2.1) n) (.block 0 (.loop (cd (bodyOf f6) [1, 1, 0, 1, 0, 0]))) :=
    mk_loopQ (O := tabL []) (root := (bodyOf f6)) (π := [1, 1, 0, 1, 0, 0]) (id := 0) (Li := [(0, .int .u8), (1, .int .u8), (5, .int .i64), (6, .int .i64)]) (Lo := [(5, .int .i64)]) (Lr := [(4, .int .u8)]) (S := (fun n x w => ref02_Times_l0 K n x.1 x.2.1 x.2.2.1 x.2.2.2.1)) (body := cd (bodyOf f6) [1, 1, 0, 1, 0, 0]) (ref02_Times_Rok K) (OrcQ.nil _ _ _) (by kernel_rfl) (fun _ _ => by kernel_rfl) (fun _ _ _ => by kernel_rfl) n
noncomputable def ref02_Times_l0_se (K : Nat) : SQ := stmtQ [(0, .int .u8), (1, .int .u8), (5, .int .i64), (6, .int .i64)] [(5, .int .i64)] [(4, .int .u8)] [(5, 7), (8, 26)] (fun x w => ref02_Times_l0 K K x.1 x.2.1 x.2.2.1 x.2.2.2.1)
theorem ref02_Times_l0_se_ok (K : Nat) (R : Rg) (h : subRB [(5, 7), (8, 26)] R = true) : (ref02_Times_l0_se K).Ok prog R (.block 0 (.loop (cd (bodyOf f6) [1, 1, 0, 1, 0, 0]))) := stmtQ_ok (Li := [(0, .int .u8), (1, .int .u8), (5, .int .i64), (6, .int .i64)]) (Lo := [(5, .int .i64)]) (Lr := [(4, .int .u8)]) (S := (fun x w => ref02_Times_l0 K K x.1 x.2.1 x.2.2.1 x.2.2.2.1)) (ref02_Times_l0_ok K K) (subR_of h)
theorem ref02_Times_l1_ok (K : Nat) (n : Nat) : StmtQOk prog [(5, .int .i64), (7, .int .i64)] [(5, .int .i64)] [(4, .int .u8)] [(5, 6), (7, 8), (26, 42)] ((fun n x w => ref02_Times_l1 K n x.1 x.2.1) n) (.block 2 (.loop (cd (bodyOf f6) [1, 1, 1, 0, 1, 0, 0]))) :=
    mk_loopQ (O := tabL []) (root := (bodyOf f6)) (π := [1, 1, 1, 0, 1, 0, 0]) (id := 2) (Li := [(5, .int .i64), (7, .int .i64)]) (Lo := [(5, .int .i64)]) (Lr := [(4, .int .u8)]) (S := (fun n x w => ref02_Times_l1 K n x.1 x.2.1)) (body := cd (bodyOf f6) [1, 1, 1, 0, 1, 0, 0]) (ref02_Times_Rok K) (OrcQ.nil _ _ _) (by kernel_rfl) (fun _ _ => by kernel_rfl) (fun _ _ _ => by kernel_rfl) n
noncomputable def ref02_Times_l1_se (K : Nat) : SQ := stmtQ [(5, .int .i64), (7, .int .i64)] [(5, .int .i64)] [(4, .int .u8)] [(5, 6), (7, 8), (26, 42)] (fun x w => ref02_Times_l1 K K x.1 x.2.1)
theorem ref02_Times_l1_se_ok (K : Nat) (R : Rg) (h : subRB [(5, 6), (7, 8), (26, 42)] R = true) : (ref02_Times_l1_se K).Ok prog R (.block 2 (.loop (cd (bodyOf f6) [1, 1, 1, 0, 1, 0, 0]))) := stmtQ_ok (Li := [(5, .int .i64), (7, .int .i64)]) (Lo := [(5, .int .i64)]) (Lr := [(4, .int .u8)]) (S := (fun x w => ref02_Times_l1 K K x.1 x.2.1)) (ref02_Times_l1_ok K K) (subR_of h)
theorem ref02_Times_facts : FunFacts prog 6 f6 (bodyOf f6) [(0, .int .u8), (1, .int .u8)] [(0, 44)] := ⟨func6, by kernel_rfl, by kernel_rfl, by kernel_rfl, by kernel_rfl, by kernel_rfl⟩
theorem ref02_Times_calls (K : Nat) (x : TT [(0, .int .u8), (1, .int .u8)]) (w : World) (y : TR [.int .u8]) (h : ref02_Times K x.1 x.2.1 = some y) : Calls prog 6 (encA [(0, .int .u8), (1, .int .u8)] x).toArray w (fun e w3 => e = .returned (resV (encR [.int .u8] y)) ∧ w3 = w) :=
    mk_funQ (O := tabL [([1, 1, 0, 1], ref02_Times_l0_se K), ([1, 1, 1, 0, 1], ref02_Times_l1_se K)]) (Lp := [(0, .int .u8), (1, .int .u8)]) (Rt := [.int .u8]) (S := (fun x w => ref02_Times K x.1 x.2.1)) (ref02_Times_Rok K) ref02_Times_facts (OrcQ.cons (by kernel_rfl) (ref02_Times_l0_se_ok K [(0, 44)] (by kernel_rfl)) (OrcQ.cons (by kernel_rfl) (ref02_Times_l1_se_ok K [(0, 44)] (by kernel_rfl)) (OrcQ.nil _ _ _))) (fun _ _ => by kernel_rfl) x w y h
noncomputable def ref02_Times_re (K : Nat) : RE := funR [(0, .int .u8), (1, .int .u8)] [.int .u8] (fun x w => ref02_Times K x.1 x.2.1)
theorem ref02_Times_ok (K : Nat) : (ref02_Times_re K).Ok prog 6 := funR_ok (Rt := [.int .u8]) (S := (fun x w => ref02_Times K x.1 x.2.1)) ref02_Times_facts fun x w y h => ref02_Times_calls K x w y h

noncomputable def rijndael_turn_R : List (Nat × RE) := []
theorem rijndael_turn_Rok : REnv.Ok prog (tab (rijndael_turn_R)) := (REnv.nil _)
/-- coffer/rijndael.turn -/
noncomputable def rijndael_turn (b0 : Int) (n1 : Int) : Option (Int × Unit) :=
  if (0 : Int) ≤ n1 then (if (0 : Int) ≤ (IntKind.u64.wrap (8 - n1)) then (some ((bits .or .u8 (IntKind.u8.wrap (b0 * 2 ^ (min (Int.toNat n1) IntKind.u8.bits))) (Int.fdiv b0 (2 ^ (min (Int.toNat (IntKind.u64.wrap (8 - n1))) IntKind.u8.bits)))), ())) else none) else none
theorem rijndael_turn_facts : FunFacts prog 14 f14 (bodyOf f14) [(0, .int .u8), (1, .int .u64)] [(0, 13)] := ⟨func14, by kernel_rfl, by kernel_rfl, by kernel_rfl, by kernel_rfl, by kernel_rfl⟩
theorem rijndael_turn_calls (x : TT [(0, .int .u8), (1, .int .u64)]) (w : World) (y : TR [.int .u8]) (h : rijndael_turn x.1 x.2.1 = some y) : Calls prog 14 (encA [(0, .int .u8), (1, .int .u64)] x).toArray w (fun e w3 => e = .returned (resV (encR [.int .u8] y)) ∧ w3 = w) :=
    mk_funQ (O := tabL []) (Lp := [(0, .int .u8), (1, .int .u64)]) (Rt := [.int .u8]) (S := (fun x w => rijndael_turn x.1 x.2.1)) (rijndael_turn_Rok) rijndael_turn_facts (OrcQ.nil _ _ _) (fun _ _ => by kernel_rfl) x w y h
noncomputable def rijndael_turn_re : RE := funR [(0, .int .u8), (1, .int .u64)] [.int .u8] (fun x w => rijndael_turn x.1 x.2.1)
theorem rijndael_turn_ok : (rijndael_turn_re).Ok prog 14 := funR_ok (Rt := [.int .u8]) (S := (fun x w => rijndael_turn x.1 x.2.1)) rijndael_turn_facts fun x w y h => rijndael_turn_calls x w y h

noncomputable def rijndael_substitutions_E (K : Nat) : List (Nat × CE) := []
theorem rijndael_substitutions_Eok (K : Nat) : Env.Ok prog (tab (rijndael_substitutions_E K)) := (Env.nil _)
noncomputable def rijndael_substitutions_R (K : Nat) : List (Nat × RE) := [(5, rijndael_Times_re K), (14, rijndael_turn_re)]
theorem rijndael_substitutions_Rok (K : Nat) : REnv.Ok prog (tab (rijndael_substitutions_R K)) := (REnv.cons (rijndael_Times_ok K) (REnv.cons (rijndael_turn_ok) (REnv.nil _)))
noncomputable def rijndael_substitutions_l0_b (K : Nat) (rec : Addr → Addr → Int → Int → World → Option ((Out (Unit) (Addr × Unit)) × World)) (a0 : Addr) (t1 : Addr) (p2 : Int) (q3 : Int) (w : World) : Option ((Out (Unit) (Addr × Unit)) × World) :=
  (rijndael_Times K p2 3).bind fun r_6 =>
  (rijndael_Times K q3 246).bind fun r_7 =>
  (rijndael_turn r_7.1 1).bind fun r_8 =>
  (rijndael_turn r_7.1 2).bind fun r_9 =>
  (rijndael_turn r_7.1 3).bind fun r_10 =>
  (rijndael_turn r_7.1 4).bind fun r_11 =>
  if (0 : Int) ≤ r_6.1 ∧ r_6.1 < ((256 : Nat) : Int) then ((stC (t1.add ((Int.toNat r_6.1) * 1)) (.int .u8 (bits .xor .u8 (bits .xor .u8 (bits .xor .u8 (bits .xor .u8 (bits .xor .u8 r_7.1 r_8.1) r_9.1) r_10.1) r_11.1) 99)) w).bind fun w_12 =>
  if (r_6.1 == 1) = true then ((ldA 256 t1 w_12).bind fun v_13 =>
  if (v_13).size = 256 then ((stA a0 v_13 w_12).bind fun w_14 =>
  some (.ret (a0, ()), w_14)) else none) else (rec a0 t1 r_6.1 r_7.1 w_12)) else none
noncomputable def rijndael_substitutions_l0 (K : Nat) (n : Nat) : Addr → Addr → Int → Int → World → Option ((Out (Unit) (Addr × Unit)) × World) := iter (fun _ _ _ _ _ => none) (rijndael_substitutions_l0_b K) n
/-- coffer/rijndael.substitutions -/
noncomputable def rijndael_substitutions (K : Nat)  (w : World) : Option (((Array Value) × Unit) × World) :=
  bnd (newB z27 27 w) fun p_1 w_2 =>
  bnd (newB z27 27 w_2) fun t_3 w_4 =>
  (stC (t_3.add (0 * 1)) (.int .u8 99) w_4).bind fun w_5 =>
  bnd (rijndael_substitutions_l0 K K p_1 t_3 1 1 w_5) fun y_15 w_16 =>
  (match y_15 with
  | .norm z_17n => ((ldA 256 p_1 w_16).bind fun res_18 =>
  some ((res_18, ()), w_16))
  | .ret z_17r => ((ldA 256 z_17r.1 w_16).bind fun res_19 =>
  some ((res_19, ()), w_16)))
theorem rijndael_substitutions_l0_ok (K : Nat) (n : Nat) : StmtOk prog [(0, .addr), (1, .addr), (2, .int .u8), (3, .int .u8)] [] [(0, .addr)] [(2, 4), (5, 28)] ((fun n x w => rijndael_substitutions_l0 K n x.1 x.2.1 x.2.2.1 x.2.2.2.1 w) n) (.block 0 (.loop (cd (bodyOf f10) [1, 1, 1, 1, 0, 0]))) :=
    mk_loop (O := tabL []) (root := (bodyOf f10)) (π := [1, 1, 1, 1, 0, 0]) (id := 0) (Li := [(0, .addr), (1, .addr), (2, .int .u8), (3, .int .u8)]) (Lo := []) (Lr := [(0, .addr)]) (S := (fun n x w => rijndael_substitutions_l0 K n x.1 x.2.1 x.2.2.1 x.2.2.2.1 w)) (body := cd (bodyOf f10) [1, 1, 1, 1, 0, 0]) (rijndael_substitutions_Eok K) (rijndael_substitutions_Rok K) rfl (Orc.nil _ _ _) (by kernel_rfl) (fun _ _ => by kernel_rfl) (fun _ _ _ => by kernel_rfl) n
noncomputable def rijndael_substitutions_l0_se (K : Nat) : SE := stmt [(0, .addr), (1, .addr), (2, .int .u8), (3, .int .u8)] [] [(0, .addr)] [(2, 4), (5, 28)] (fun x w => rijndael_substitutions_l0 K K x.1 x.2.1 x.2.2.1 x.2.2.2.1 w)
theorem rijndael_substitutions_l0_se_ok (K : Nat) (R : Rg) (h : subRB [(2, 4), (5, 28)] R = true) : (rijndael_substitutions_l0_se K).Ok prog R (.block 0 (.loop (cd (bodyOf f10) [1, 1, 1, 1, 0, 0]))) := stmt_ok (Li := [(0, .addr), (1, .addr), (2, .int .u8), (3, .int .u8)]) (Lo := []) (Lr := [(0, .addr)]) (S := (fun x w => rijndael_substitutions_l0 K K x.1 x.2.1 x.2.2.1 x.2.2.2.1 w)) (rijndael_substitutions_l0_ok K K) (subR_of h)
theorem rijndael_substitutions_facts : FunFacts prog 10 f10 (bodyOf f10) [] [(0, 28)] := ⟨func10, by kernel_rfl, by kernel_rfl, by kernel_rfl, by kernel_rfl, by kernel_rfl⟩
theorem rijndael_substitutions_calls (K : Nat) (x : TT []) (w : World) (y : TR [.agg]) (w2 : World) (h : rijndael_substitutions K  w = some (y, w2)) : Calls prog 10 (encA [] x).toArray w (fun e w3 => e = .returned (resV (encR [.agg] y)) ∧ w3 = w2) :=
    mk_fun (O := tabL [([1, 1, 1, 1], rijndael_substitutions_l0_se K)]) (Lp := []) (Rt := [.agg]) (S := (fun x w => rijndael_substitutions K  w)) (rijndael_substitutions_Eok K) (rijndael_substitutions_Rok K) rfl rijndael_substitutions_facts (Orc.cons (by kernel_rfl) (rijndael_substitutions_l0_se_ok K [(0, 28)] (by kernel_rfl)) (Orc.nil _ _ _)) (fun _ _ => by kernel_rfl) x w y w2 h
noncomputable def rijndael_substitutions_ce (K : Nat) : CE := funE [] [.agg] (fun x w => rijndael_substitutions K  w)
theorem rijndael_substitutions_ok (K : Nat) : (rijndael_substitutions_ce K).Ok prog 10 := funE_ok (Rt := [.agg]) (S := (fun x w => rijndael_substitutions K  w)) rijndael_substitutions_facts fun x w y w2 h => rijndael_substitutions_calls K x w y w2 h

noncomputable def rijndael_SBox_E (K : Nat) : List (Nat × CE) := [(10, rijndael_substitutions_ce K)]
theorem rijndael_SBox_Eok (K : Nat) : Env.Ok prog (tab (rijndael_SBox_E K)) := (Env.cons (rijndael_substitutions_ok K) (Env.nil _))
noncomputable def rijndael_SBox_R (K : Nat) : List (Nat × RE) := []
theorem rijndael_SBox_Rok (K : Nat) : REnv.Ok prog (tab (rijndael_SBox_R K)) := (REnv.nil _)
/-- coffer/rijndael.SBox -/
noncomputable def rijndael_SBox (K : Nat) (b0 : Int) (w : World) : Option ((Int × Unit) × World) :=
  bnd (rijndael_substitutions K  w) fun r_1 w_2 =>
  if (0 : Int) ≤ b0 ∧ b0 < ((256 : Nat) : Int) then ((r_1.1[((Int.toNat b0) * 1)]?).bind fun v_3 =>
  (asI .u8 v_3).bind fun v_4 =>
  some ((v_4, ()), w_2)) else none
theorem rijndael_SBox_facts : FunFacts prog 7 f7 (bodyOf f7) [(0, .int .u8)] [(0, 6)] := ⟨func7, by kernel_rfl, by kernel_rfl, by kernel_rfl, by kernel_rfl, by kernel_rfl⟩
theorem rijndael_SBox_calls (K : Nat) (x : TT [(0, .int .u8)]) (w : World) (y : TR [.int .u8]) (w2 : World) (h : rijndael_SBox K x.1 w = some (y, w2)) : Calls prog 7 (encA [(0, .int .u8)] x).toArray w (fun e w3 => e = .returned (resV (encR [.int .u8] y)) ∧ w3 = w2) :=
    mk_fun (O := tabL []) (Lp := [(0, .int .u8)]) (Rt := [.int .u8]) (S := (fun x w => rijndael_SBox K x.1 w)) (rijndael_SBox_Eok K) (rijndael_SBox_Rok K) rfl rijndael_SBox_facts (Orc.nil _ _ _) (fun _ _ => by kernel_rfl) x w y w2 h
noncomputable def rijndael_SBox_ce (K : Nat) : CE := funE [(0, .int .u8)] [.int .u8] (fun x w => rijndael_SBox K x.1 w)
theorem rijndael_SBox_ok (K : Nat) : (rijndael_SBox_ce K).Ok prog 7 := funE_ok (Rt := [.int .u8]) (S := (fun x w => rijndael_SBox K x.1 w)) rijndael_SBox_facts fun x w y w2 h => rijndael_SBox_calls K x w y w2 h

noncomputable def ref02_inverse_R (K : Nat) : List (Nat × RE) := [(6, ref02_Times_re K)]
theorem ref02_inverse_Rok (K : Nat) : REnv.Ok prog (tab (ref02_inverse_R K)) := (REnv.cons (ref02_Times_ok K) (REnv.nil _))
noncomputable def ref02_inverse_l0_b (K : Nat) (rec : Int → Int → Int → Option (Out (Int × Unit) (Int × Unit))) (b0 : Int) (p3 : Int) (i4 : Int) : Option (Out (Int × Unit) (Int × Unit)) :=
  if (decide (i4 < 7)) = true then ((ref02_Times K b0 b0).bind fun r_1 =>
  (ref02_Times K p3 r_1.1).bind fun r_2 =>
  rec r_1.1 r_2.1 (IntKind.i64.wrap (i4 + 1))) else (some (.norm (p3, ())))
noncomputable def ref02_inverse_l0 (K : Nat) (n : Nat) : Int → Int → Int → Option (Out (Int × Unit) (Int × Unit)) := iter (fun _ _ _ => none) (ref02_inverse_l0_b K) n
/-- coffer/cofferref02.inverse -/
noncomputable def ref02_inverse (K : Nat) (b0 : Int) : Option (Int × Unit) :=
  (ref02_inverse_l0 K K b0 1 0).bind fun y_3 =>
  (match y_3 with
  | .norm z_4n => (some (z_4n.1, ()))
  | .ret z_4r => (some (z_4r.1, ())))
theorem ref02_inverse_l0_ok (K : Nat) (n : Nat) : StmtQOk prog [(0, .int .u8), (3, .int .u8), (4, .int .i64)] [(3, .int .u8)] [(2, .int .u8)] [(0, 1), (3, 15)] ((fun n x w => ref02_inverse_l0 K n x.1 x.2.1 x.2.2.1) n) (.block 0 (.loop (cd (bodyOf f12) [1, 1, 0, 1, 0, 0]))) :=
    mk_loopQ (O := tabL []) (root := (bodyOf f12)) (π := [1, 1, 0, 1, 0, 0]) (id := 0) (Li := [(0, .int .u8), (3, .int .u8), (4, .int .i64)]) (Lo := [(3, .int .u8)]) (Lr := [(2, .int .u8)]) (S := (fun n x w => ref02_inverse_l0 K n x.1 x.2.1 x.2.2.1)) (body := cd (bodyOf f12) [1, 1, 0, 1, 0, 0]) (ref02_inverse_Rok K) (OrcQ.nil _ _ _) (by kernel_rfl) (fun _ _ => by kernel_rfl) (fun _ _ _ => by kernel_rfl) n
noncomputable def ref02_inverse_l0_se (K : Nat) : SQ := stmtQ [(0, .int .u8), (3, .int .u8), (4, .int .i64)] [(3, .int .u8)] [(2, .int .u8)] [(0, 1), (3, 15)] (fun x w => ref02_inverse_l0 K K x.1 x.2.1 x.2.2.1)
theorem ref02_inverse_l0_se_ok (K : Nat) (R : Rg) (h : subRB [(0, 1), (3, 15)] R = true) : (ref02_inverse_l0_se K).Ok prog R (.block 0 (.loop (cd (bodyOf f12) [1, 1, 0, 1, 0, 0]))) := stmtQ_ok (Li := [(0, .int .u8), (3, .int .u8), (4, .int .i64)]) (Lo := [(3, .int .u8)]) (Lr := [(2, .int .u8)]) (S := (fun x w => ref02_inverse_l0 K K x.1 x.2.1 x.2.2.1)) (ref02_inverse_l0_ok K K) (subR_of h)
theorem ref02_inverse_facts : FunFacts prog 12 f12 (bodyOf f12) [(0, .int .u8)] [(0, 16)] := ⟨func12, by kernel_rfl, by kernel_rfl, by kernel_rfl, by kernel_rfl, by kernel_rfl⟩
theorem ref02_inverse_calls (K : Nat) (x : TT [(0, .int .u8)]) (w : World) (y : TR [.int .u8]) (h : ref02_inverse K x.1 = some y) : Calls prog 12 (encA [(0, .int .u8)] x).toArray w (fun e w3 => e = .returned (resV (encR [.int .u8] y)) ∧ w3 = w) :=
    mk_funQ (O := tabL [([1, 1, 0, 1], ref02_inverse_l0_se K)]) (Lp := [(0, .int .u8)]) (Rt := [.int .u8]) (S := (fun x w => ref02_inverse K x.1)) (ref02_inverse_Rok K) ref02_inverse_facts (OrcQ.cons (by kernel_rfl) (ref02_inverse_l0_se_ok K [(0, 16)] (by kernel_rfl)) (OrcQ.nil _ _ _)) (fun _ _ => by kernel_rfl) x w y h
noncomputable def ref02_inverse_re (K : Nat) : RE := funR [(0, .int .u8)] [.int .u8] (fun x w => ref02_inverse K x.1)
theorem ref02_inverse_ok (K : Nat) : (ref02_inverse_re K).Ok prog 12 := funR_ok (Rt := [.int .u8]) (S := (fun x w => ref02_inverse K x.1)) ref02_inverse_facts fun x w y h => ref02_inverse_calls K x w y h

noncomputable def ref02_bits_R (K : Nat) : List (Nat × RE) := []
theorem ref02_bits_Rok (K : Nat) : REnv.Ok prog (tab (ref02_bits_R K)) := (REnv.nil _)
noncomputable def ref02_bits_l0_b (K : Nat) (rec : Int → Int → Int → Option (Out (Int × Unit) (Int × Unit))) (y0 : Int) (s3 : Int) (i4 : Int) : Option (Out (Int × Unit) (Int × Unit)) :=
  if (decide (i4 < 8)) = true then (if (0 : Int) ≤ (IntKind.u64.wrap i4) then (if (0 : Int) ≤ (IntKind.u64.wrap (Int.tmod (IntKind.i64.wrap (i4 + 4)) 8)) then (if (0 : Int) ≤ (IntKind.u64.wrap (Int.tmod (IntKind.i64.wrap (i4 + 5)) 8)) then (if (0 : Int) ≤ (IntKind.u64.wrap (Int.tmod (IntKind.i64.wrap (i4 + 6)) 8)) then (if (0 : Int) ≤ (IntKind.u64.wrap (Int.tmod (IntKind.i64.wrap (i4 + 7)) 8)) then (if (0 : Int) ≤ (IntKind.u64.wrap i4) then (if (0 : Int) ≤ (IntKind.u64.wrap i4) then (rec y0 (IntKind.i64.wrap (s3 + (IntKind.i64.wrap ((Int.tmod (bits .xor .i64 (bits .xor .i64 (bits .xor .i64 (bits .xor .i64 (bits .xor .i64 (Int.fdiv y0 (2 ^ (min (Int.toNat (IntKind.u64.wrap i4)) IntKind.i64.bits))) (Int.fdiv y0 (2 ^ (min (Int.toNat (IntKind.u64.wrap (Int.tmod (IntKind.i64.wrap (i4 + 4)) 8))) IntKind.i64.bits)))) (Int.fdiv y0 (2 ^ (min (Int.toNat (IntKind.u64.wrap (Int.tmod (IntKind.i64.wrap (i4 + 5)) 8))) IntKind.i64.bits)))) (Int.fdiv y0 (2 ^ (min (Int.toNat (IntKind.u64.wrap (Int.tmod (IntKind.i64.wrap (i4 + 6)) 8))) IntKind.i64.bits)))) (Int.fdiv y0 (2 ^ (min (Int.toNat (IntKind.u64.wrap (Int.tmod (IntKind.i64.wrap (i4 + 7)) 8))) IntKind.i64.bits)))) (Int.fdiv 99 (2 ^ (min (Int.toNat (IntKind.u64.wrap i4)) IntKind.i64.bits)))) 2) * 2 ^ (min (Int.toNat (IntKind.u64.wrap i4)) IntKind.i64.bits))))) (IntKind.i64.wrap (i4 + 1))) else none) else none) else none) else none) else none) else none) else none) else (some (.norm (s3, ())))
noncomputable def ref02_bits_l0 (K : Nat) (n : Nat) : Int → Int → Int → Option (Out (Int × Unit) (Int × Unit)) := iter (fun _ _ _ => none) (ref02_bits_l0_b K) n
/-- coffer/cofferref02.bits -/
noncomputable def ref02_bits (K : Nat) (y0 : Int) : Option (Int × Unit) :=
  (ref02_bits_l0 K K y0 0 0).bind fun y_1 =>
  (match y_1 with
  | .norm z_2n => (some ((IntKind.u8.wrap z_2n.1), ()))
  | .ret z_2r => (some (z_2r.1, ())))
theorem ref02_bits_l0_ok (K : Nat) (n : Nat) : StmtQOk prog [(0, .int .i64), (3, .int .i64), (4, .int .i64)] [(3, .int .i64)] [(2, .int .u8)] [(3, 53)] ((fun n x w => ref02_bits_l0 K n x.1 x.2.1 x.2.2.1) n) (.block 0 (.loop (cd (bodyOf f11) [1, 1, 0, 1, 0, 0]))) :=
    mk_loopQ (O := tabL []) (root := (bodyOf f11)) (π := [1, 1, 0, 1, 0, 0]) (id := 0) (Li := [(0, .int .i64), (3, .int .i64), (4, .int .i64)]) (Lo := [(3, .int .i64)]) (Lr := [(2, .int .u8)]) (S := (fun n x w => ref02_bits_l0 K n x.1 x.2.1 x.2.2.1)) (body := cd (bodyOf f11) [1, 1, 0, 1, 0, 0]) (ref02_bits_Rok K) (OrcQ.nil _ _ _) (by kernel_rfl) (fun _ _ => by kernel_rfl) (fun _ _ _ => by kernel_rfl) n
noncomputable def ref02_bits_l0_se (K : Nat) : SQ := stmtQ [(0, .int .i64), (3, .int .i64), (4, .int .i64)] [(3, .int .i64)] [(2, .int .u8)] [(3, 53)] (fun x w => ref02_bits_l0 K K x.1 x.2.1 x.2.2.1)
theorem ref02_bits_l0_se_ok (K : Nat) (R : Rg) (h : subRB [(3, 53)] R = true) : (ref02_bits_l0_se K).Ok prog R (.block 0 (.loop (cd (bodyOf f11) [1, 1, 0, 1, 0, 0]))) := stmtQ_ok (Li := [(0, .int .i64), (3, .int .i64), (4, .int .i64)]) (Lo := [(3, .int .i64)]) (Lr := [(2, .int .u8)]) (S := (fun x w => ref02_bits_l0 K K x.1 x.2.1 x.2.2.1)) (ref02_bits_l0_ok K K) (subR_of h)
theorem ref02_bits_facts : FunFacts prog 11 f11 (bodyOf f11) [(0, .int .i64)] [(0, 55)] := ⟨func11, by kernel_rfl, by kernel_rfl, by kernel_rfl, by kernel_rfl, by kernel_rfl⟩
theorem ref02_bits_calls (K : Nat) (x : TT [(0, .int .i64)]) (w : World) (y : TR [.int .u8]) (h : ref02_bits K x.1 = some y) : Calls prog 11 (encA [(0, .int .i64)] x).toArray w (fun e w3 => e = .returned (resV (encR [.int .u8] y)) ∧ w3 = w) :=
    mk_funQ (O := tabL [([1, 1, 0, 1], ref02_bits_l0_se K)]) (Lp := [(0, .int .i64)]) (Rt := [.int .u8]) (S := (fun x w => ref02_bits K x.1)) (ref02_bits_Rok K) ref02_bits_facts (OrcQ.cons (by kernel_rfl) (ref02_bits_l0_se_ok K [(0, 55)] (by kernel_rfl)) (OrcQ.nil _ _ _)) (fun _ _ => by kernel_rfl) x w y h
noncomputable def ref02_bits_re (K : Nat) : RE := funR [(0, .int .i64)] [.int .u8] (fun x w => ref02_bits K x.1)
theorem ref02_bits_ok (K : Nat) : (ref02_bits_re K).Ok prog 11 := funR_ok (Rt := [.int .u8]) (S := (fun x w => ref02_bits K x.1)) ref02_bits_facts fun x w y h => ref02_bits_calls K x w y h

noncomputable def ref02_SBox_R (K : Nat) : List (Nat × RE) := [(12, ref02_inverse_re K), (11, ref02_bits_re K)]
theorem ref02_SBox_Rok (K : Nat) : REnv.Ok prog (tab (ref02_SBox_R K)) := (REnv.cons (ref02_inverse_ok K) (REnv.cons (ref02_bits_ok K) (REnv.nil _)))
/-- coffer/cofferref02.SBox -/
noncomputable def ref02_SBox (K : Nat) (b0 : Int) : Option (Int × Unit) :=
  (ref02_inverse K b0).bind fun r_1 =>
  (ref02_bits K (IntKind.i64.wrap r_1.1)).bind fun r_2 =>
  some (r_2.1, ())
theorem ref02_SBox_facts : FunFacts prog 8 f8 (bodyOf f8) [(0, .int .u8)] [(0, 7)] := ⟨func8, by kernel_rfl, by kernel_rfl, by kernel_rfl, by kernel_rfl, by kernel_rfl⟩
theorem ref02_SBox_calls (K : Nat) (x : TT [(0, .int .u8)]) (w : World) (y : TR [.int .u8]) (h : ref02_SBox K x.1 = some y) : Calls prog 8 (encA [(0, .int .u8)] x).toArray w (fun e w3 => e = .returned (resV (encR [.int .u8] y)) ∧ w3 = w) :=
    mk_funQ (O := tabL []) (Lp := [(0, .int .u8)]) (Rt := [.int .u8]) (S := (fun x w => ref02_SBox K x.1)) (ref02_SBox_Rok K) ref02_SBox_facts (OrcQ.nil _ _ _) (fun _ _ => by kernel_rfl) x w y h
noncomputable def ref02_SBox_re (K : Nat) : RE := funR [(0, .int .u8)] [.int .u8] (fun x w => ref02_SBox K x.1)
theorem ref02_SBox_ok (K : Nat) : (ref02_SBox_re K).Ok prog 8 := funR_ok (Rt := [.int .u8]) (S := (fun x w => ref02_SBox K x.1)) ref02_SBox_facts fun x w y h => ref02_SBox_calls K x w y h

noncomputable def rijndael_inverse_E (K : Nat) : List (Nat × CE) := []
theorem rijndael_inverse_Eok (K : Nat) : Env.Ok prog (tab (rijndael_inverse_E K)) := (Env.nil _)
noncomputable def rijndael_inverse_R (K : Nat) : List (Nat × RE) := []
theorem rijndael_inverse_Rok (K : Nat) : REnv.Ok prog (tab (rijndael_inverse_R K)) := (REnv.nil _)
noncomputable def rijndael_inverse_l0_b (K : Nat) (rec : Addr → Addr → Array Value → Int → World → Option ((Unit) × World)) (a2 : Addr) (u3 : Addr) (a6 : Array Value) (a7 : Int) (w : World) : Option ((Unit) × World) :=
  if (decide (a7 < 256)) = true then (if (0 : Int) ≤ a7 ∧ a7 < ((256 : Nat) : Int) then ((a6[((Int.toNat a7) * 1)]?).bind fun v_8 =>
  (asI .u8 v_8).bind fun v_9 =>
  if (0 : Int) ≤ v_9 ∧ v_9 < ((256 : Nat) : Int) then ((stC (u3.add ((Int.toNat v_9) * 1)) (.int .u8 (IntKind.u8.wrap a7)) w).bind fun w_10 =>
  rec a2 u3 a6 (IntKind.i64.wrap (a7 + 1)) w_10) else none) else none) else (some ((), w))
noncomputable def rijndael_inverse_l0 (K : Nat) (n : Nat) : Addr → Addr → Array Value → Int → World → Option ((Unit) × World) := iter (fun _ _ _ _ _ => none) (rijndael_inverse_l0_b K) n
/-- coffer/rijndael.inverse -/
noncomputable def rijndael_inverse (K : Nat) (t0 : Array Value) (w : World) : Option (((Array Value) × Unit) × World) :=
  bnd (newB t0 27 w) fun p_1 w_2 =>
  bnd (newB z27 27 w_2) fun p_3 w_4 =>
  bnd (newB z27 27 w_4) fun u_5 w_6 =>
  (ldA 256 p_1 w_6).bind fun v_7 =>
  bnd (rijndael_inverse_l0 K K p_3 u_5 v_7 0 w_6) fun y_11 w_12 =>
  (ldA 256 u_5 w_12).bind fun v_13 =>
  if (v_13).size = 256 then ((stA p_3 v_13 w_12).bind fun w_14 =>
  (ldA 256 p_3 w_14).bind fun res_15 =>
  some ((res_15, ()), w_14)) else none
theorem rijndael_inverse_l0_ok (K : Nat) (n : Nat) : StmtNOk prog [(2, .addr), (3, .addr), (6, .agg), (7, .int .i64)] [] [(4, 6), (7, 16)] ((fun n x w => rijndael_inverse_l0 K n x.1 x.2.1 x.2.2.1 x.2.2.2.1 w) n) (.block 0 (.loop (cd (bodyOf f13) [1, 1, 0, 1, 0, 0]))) :=
    mk_loopN (O := tabL []) (root := (bodyOf f13)) (π := [1, 1, 0, 1, 0, 0]) (id := 0) (Li := [(2, .addr), (3, .addr), (6, .agg), (7, .int .i64)]) (Lo := []) (S := (fun n x w => rijndael_inverse_l0 K n x.1 x.2.1 x.2.2.1 x.2.2.2.1 w)) (body := cd (bodyOf f13) [1, 1, 0, 1, 0, 0]) (rijndael_inverse_Eok K) (rijndael_inverse_Rok K) rfl (Orc.nil _ _ _) (by kernel_rfl) (fun _ _ => by kernel_rfl) (fun _ _ _ => by kernel_rfl) n
noncomputable def rijndael_inverse_l0_se (K : Nat) : SE := stmtN [(2, .addr), (3, .addr), (6, .agg), (7, .int .i64)] [] [(4, 6), (7, 16)] (fun x w => rijndael_inverse_l0 K K x.1 x.2.1 x.2.2.1 x.2.2.2.1 w)
theorem rijndael_inverse_l0_se_ok (K : Nat) (R : Rg) (h : subRB [(4, 6), (7, 16)] R = true) : (rijndael_inverse_l0_se K).Ok prog R (.block 0 (.loop (cd (bodyOf f13) [1, 1, 0, 1, 0, 0]))) := stmtN_ok (Li := [(2, .addr), (3, .addr), (6, .agg), (7, .int .i64)]) (Lo := []) (S := (fun x w => rijndael_inverse_l0 K K x.1 x.2.1 x.2.2.1 x.2.2.2.1 w)) (rijndael_inverse_l0_ok K K) (subR_of h)
theorem rijndael_inverse_facts : FunFacts prog 13 f13 (bodyOf f13) [(0, .agg)] [(0, 17)] := ⟨func13, by kernel_rfl, by kernel_rfl, by kernel_rfl, by kernel_rfl, by kernel_rfl⟩
theorem rijndael_inverse_calls (K : Nat) (x : TT [(0, .agg)]) (w : World) (y : TR [.agg]) (w2 : World) (h : rijndael_inverse K x.1 w = some (y, w2)) : Calls prog 13 (encA [(0, .agg)] x).toArray w (fun e w3 => e = .returned (resV (encR [.agg] y)) ∧ w3 = w2) :=
    mk_fun (O := tabL [([1, 1, 0, 1], rijndael_inverse_l0_se K)]) (Lp := [(0, .agg)]) (Rt := [.agg]) (S := (fun x w => rijndael_inverse K x.1 w)) (rijndael_inverse_Eok K) (rijndael_inverse_Rok K) rfl rijndael_inverse_facts (Orc.cons (by kernel_rfl) (rijndael_inverse_l0_se_ok K [(0, 17)] (by kernel_rfl)) (Orc.nil _ _ _)) (fun _ _ => by kernel_rfl) x w y w2 h
noncomputable def rijndael_inverse_ce (K : Nat) : CE := funE [(0, .agg)] [.agg] (fun x w => rijndael_inverse K x.1 w)
theorem rijndael_inverse_ok (K : Nat) : (rijndael_inverse_ce K).Ok prog 13 := funE_ok (Rt := [.agg]) (S := (fun x w => rijndael_inverse K x.1 w)) rijndael_inverse_facts fun x w y w2 h => rijndael_inverse_calls K x w y w2 h

noncomputable def rijndael_InvSBox_E (K : Nat) : List (Nat × CE) := [(10, rijndael_substitutions_ce K), (13, rijndael_inverse_ce K)]
theorem rijndael_InvSBox_Eok (K : Nat) : Env.Ok prog (tab (rijndael_InvSBox_E K)) := (Env.cons (rijndael_substitutions_ok K) (Env.cons (rijndael_inverse_ok K) (Env.nil _)))
noncomputable def rijndael_InvSBox_R (K : Nat) : List (Nat × RE) := []
theorem rijndael_InvSBox_Rok (K : Nat) : REnv.Ok prog (tab (rijndael_InvSBox_R K)) := (REnv.nil _)
/-- coffer/rijndael.InvSBox -/
noncomputable def rijndael_InvSBox (K : Nat) (b0 : Int) (w : World) : Option ((Int × Unit) × World) :=
  bnd (rijndael_substitutions K  w) fun r_1 w_2 =>
  bnd (rijndael_inverse K r_1.1 w_2) fun r_3 w_4 =>
  if (0 : Int) ≤ b0 ∧ b0 < ((256 : Nat) : Int) then ((r_3.1[((Int.toNat b0) * 1)]?).bind fun v_5 =>
  (asI .u8 v_5).bind fun v_6 =>
  some ((v_6, ()), w_4)) else none
theorem rijndael_InvSBox_facts : FunFacts prog 9 f9 (bodyOf f9) [(0, .int .u8)] [(0, 7)] := ⟨func9, by kernel_rfl, by kernel_rfl, by kernel_rfl, by kernel_rfl, by kernel_rfl⟩
theorem rijndael_InvSBox_calls (K : Nat) (x : TT [(0, .int .u8)]) (w : World) (y : TR [.int .u8]) (w2 : World) (h : rijndael_InvSBox K x.1 w = some (y, w2)) : Calls prog 9 (encA [(0, .int .u8)] x).toArray w (fun e w3 => e = .returned (resV (encR [.int .u8] y)) ∧ w3 = w2) :=
    mk_fun (O := tabL []) (Lp := [(0, .int .u8)]) (Rt := [.int .u8]) (S := (fun x w => rijndael_InvSBox K x.1 w)) (rijndael_InvSBox_Eok K) (rijndael_InvSBox_Rok K) rfl rijndael_InvSBox_facts (Orc.nil _ _ _) (fun _ _ => by kernel_rfl) x w y w2 h
noncomputable def rijndael_InvSBox_ce (K : Nat) : CE := funE [(0, .int .u8)] [.int .u8] (fun x w => rijndael_InvSBox K x.1 w)
theorem rijndael_InvSBox_ok (K : Nat) : (rijndael_InvSBox_ce K).Ok prog 9 := funE_ok (Rt := [.int .u8]) (S := (fun x w => rijndael_InvSBox K x.1 w)) rijndael_InvSBox_facts fun x w y w2 h => rijndael_InvSBox_calls K x w y w2 h

noncomputable def law02_RijndaelField_E (K : Nat) : List (Nat × CE) := [(7, rijndael_SBox_ce K), (9, rijndael_InvSBox_ce K)]
theorem law02_RijndaelField_Eok (K : Nat) : Env.Ok prog (tab (law02_RijndaelField_E K)) := (Env.cons (rijndael_SBox_ok K) (Env.cons (rijndael_InvSBox_ok K) (Env.nil _)))
noncomputable def law02_RijndaelField_R (K : Nat) : List (Nat × RE) := [(5, rijndael_Times_re K), (6, ref02_Times_re K), (8, ref02_SBox_re K)]
theorem law02_RijndaelField_Rok (K : Nat) : REnv.Ok prog (tab (law02_RijndaelField_R K)) := (REnv.cons (rijndael_Times_ok K) (REnv.cons (ref02_Times_ok K) (REnv.cons (ref02_SBox_ok K) (REnv.nil _))))
noncomputable def law02_RijndaelField_s0 (K : Nat) (a0 : Int) (b1 : Int) (w : World) : Option ((Bool × Unit) × World) :=
  (rijndael_Times K 2 3).bind fun r_1 =>
  if (r_1.1 != 6) = true then (some ((true, ()), w)) else ((rijndael_Times K a0 b1).bind fun r_2 =>
  (ref02_Times K a0 b1).bind fun r_3 =>
  if (r_2.1 != r_3.1) = true then (some ((true, ()), w)) else (bnd (rijndael_SBox K a0 w) fun r_4 w_5 =>
  (ref02_SBox K a0).bind fun r_6 =>
  some (((r_4.1 != r_6.1), ()), w_5)))
/-- coffer/cofferlaw02.RijndaelField -/
noncomputable def law02_RijndaelField (K : Nat) (a0 : Int) (b1 : Int) (w : World) : Option ((Bool × Unit) × World) :=
  bnd (law02_RijndaelField_s0 K a0 b1 w) fun y_7 w_8 =>
  if y_7.1 = true then (some ((false, ()), w_8)) else (bnd (rijndael_SBox K a0 w_8) fun r_9 w_10 =>
  bnd (rijndael_InvSBox K r_9.1 w_10) fun r_11 w_12 =>
  if (r_11.1 == a0) = true then (bnd (rijndael_InvSBox K b1 w_12) fun r_13 w_14 =>
  bnd (rijndael_SBox K r_13.1 w_14) fun r_15 w_16 =>
  some (((r_15.1 == b1), ()), w_16)) else (some ((false, ()), w_12)))
theorem law02_RijndaelField_s0_ok (K : Nat) : StmtNOk prog [(0, .int .u8), (1, .int .u8)] [(22, .bool)] [(5, 23)] (fun x w => law02_RijndaelField_s0 K x.1 x.2.1 w) (cd (bodyOf f4) [1, 0, 0]) :=
    mk_stmtN (O := tabL []) (root := (bodyOf f4)) (π := [1, 0, 0]) (Li := [(0, .int .u8), (1, .int .u8)]) (Lo := [(22, .bool)]) (S := (fun x w => law02_RijndaelField_s0 K x.1 x.2.1 w)) (law02_RijndaelField_Eok K) (law02_RijndaelField_Rok K) rfl (Orc.nil _ _ _) (by kernel_rfl) (fun _ _ => by kernel_rfl)
noncomputable def law02_RijndaelField_s0_se (K : Nat) : SE := stmtN [(0, .int .u8), (1, .int .u8)] [(22, .bool)] [(5, 23)] (fun x w => law02_RijndaelField_s0 K x.1 x.2.1 w)
theorem law02_RijndaelField_s0_se_ok (K : Nat) (R : Rg) (h : subRB [(5, 23)] R = true) : (law02_RijndaelField_s0_se K).Ok prog R (cd (bodyOf f4) [1, 0, 0]) := stmtN_ok (Li := [(0, .int .u8), (1, .int .u8)]) (Lo := [(22, .bool)]) (S := (fun x w => law02_RijndaelField_s0 K x.1 x.2.1 w)) (law02_RijndaelField_s0_ok K) (subR_of h)
theorem law02_RijndaelField_facts : FunFacts prog 4 f4 (bodyOf f4) [(0, .int .u8), (1, .int .u8)] [(0, 35)] := ⟨func4, by kernel_rfl, by kernel_rfl, by kernel_rfl, by kernel_rfl, by kernel_rfl⟩
theorem law02_RijndaelField_calls (K : Nat) (x : TT [(0, .int .u8), (1, .int .u8)]) (w : World) (y : TR [.bool]) (w2 : World) (h : law02_RijndaelField K x.1 x.2.1 w = some (y, w2)) : Calls prog 4 (encA [(0, .int .u8), (1, .int .u8)] x).toArray w (fun e w3 => e = .returned (resV (encR [.bool] y)) ∧ w3 = w2) :=
    mk_fun (O := tabL [([1, 0, 0], law02_RijndaelField_s0_se K)]) (Lp := [(0, .int .u8), (1, .int .u8)]) (Rt := [.bool]) (S := (fun x w => law02_RijndaelField K x.1 x.2.1 w)) (law02_RijndaelField_Eok K) (law02_RijndaelField_Rok K) rfl law02_RijndaelField_facts (Orc.cons (by kernel_rfl) (law02_RijndaelField_s0_se_ok K [(0, 35)] (by kernel_rfl)) (Orc.nil _ _ _)) (fun _ _ => by kernel_rfl) x w y w2 h
noncomputable def law02_RijndaelField_ce (K : Nat) : CE := funE [(0, .int .u8), (1, .int .u8)] [.bool] (fun x w => law02_RijndaelField K x.1 x.2.1 w)
theorem law02_RijndaelField_ok (K : Nat) : (law02_RijndaelField_ce K).Ok prog 4 := funE_ok (Rt := [.bool]) (S := (fun x w => law02_RijndaelField K x.1 x.2.1 w)) law02_RijndaelField_facts fun x w y w2 h => law02_RijndaelField_calls K x w y w2 h

end Go.Sh
