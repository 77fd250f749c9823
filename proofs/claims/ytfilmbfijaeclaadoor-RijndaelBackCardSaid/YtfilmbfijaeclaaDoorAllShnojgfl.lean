/- Texts of this claim, put together: Sh0, Sh1 -/
import Derived.Test.YtfilmbfijaeclaaDoorAllExtajcanc
import Derived.Test.YtfilmbfijaeclaaDoorProg
/- What functions of the program do, as Lean functions; that the machine does just that. Printed by shal.py, a program of this claim's writer. -/
set_option maxRecDepth 100000
set_option linter.unusedVariables false
namespace Go.Sh
open Go.Fw Go.Proofs.Tryd
def z41 : Array Value := Array.replicate 16 (.int .u8 0)
def z42 : Array Value := Array.replicate 16 (.int .u8 0)
def z93 : Array Value := Array.replicate 256 (.int .u8 0)
def z111 : Array Value := ([.int .u64 0] ++ [.slice none 0 0] : List Value).toArray
def z115 : Array Value := Array.replicate 2 (.pointer none)
def z128 : Array Value := Array.replicate 1024 (.int .u32 0)
def z135 : Array Value := Array.replicate 4 (.int .u32 0)
def z143 : Array Value := Array.replicate 8 (.int .u8 0)

noncomputable def book_Bytes_E (K : Nat) : List (Nat × CE) := []
theorem book_Bytes_Eok (K : Nat) : Env.Ok prog (tab (book_Bytes_E K)) := (Env.nil _)
noncomputable def book_Bytes_R (K : Nat) : List (Nat × RE) := []
theorem book_Bytes_Rok (K : Nat) : REnv.Ok prog (tab (book_Bytes_R K)) := (REnv.nil _)
noncomputable def book_Bytes_l0_b (K : Nat) (rec : Sl → Sl → Int → World → Option ((Sl × Unit) × World)) (l0 : Sl) (c3 : Sl) (i4 : Int) (w : World) : Option ((Sl × Unit) × World) :=
  if (decide (i4 < 70)) = true then (bnd (bldS prog 22 1 #[(0, (.int .u8 (IntKind.u8.wrap (IntKind.i64.wrap (181 + i4)))))] w) fun s_3 w_4 =>
  bnd (apd prog 22 22 (.slice c3.a c3.len c3.cap) (.slice s_3.a s_3.len s_3.cap) w_4) fun s_5 w_6 =>
  rec l0 s_5 (IntKind.i64.wrap (i4 + 1)) w_6) else (some ((c3, ()), w))
noncomputable def book_Bytes_l0 (K : Nat) (n : Nat) : Sl → Sl → Int → World → Option ((Sl × Unit) × World) := iter (fun _ _ _ _ => none) (book_Bytes_l0_b K) n
/-- coffer/cofferbook.Bytes -/
noncomputable def book_Bytes (K : Nat) (l0 : Sl) (w : World) : Option ((Sl × Unit) × World) :=
  bnd (apd prog 22 22 (.slice none 0 0) (.slice l0.a l0.len l0.cap) w) fun s_1 w_2 =>
  bnd (book_Bytes_l0 K K l0 s_1 0 w_2) fun y_7 w_8 =>
  if (0 : Int) ≤ ((l0.len : Nat) : Int) ∧ ((l0.len : Nat) : Int) ≤ ((y_7.1.cap : Nat) : Int) then (some ((⟨(sla y_7.1.a 0 y_7.1.cap 1), ((Int.toNat (((l0.len : Nat) : Int))) - 0), (y_7.1.cap - 0)⟩, ()), w_8)) else none
theorem book_Bytes_l0_ok (K : Nat) (n : Nat) : StmtNOk prog [(0, .sl), (3, .sl), (4, .int .i64)] [(3, .sl)] [(3, 5), (9, 19)] ((fun n x w => book_Bytes_l0 K n x.1 x.2.1 x.2.2.1 w) n) (.block 0 (.loop (cd (bodyOf f9) [1, 1, 1, 0, 1, 0, 0]))) :=
    mk_loopN (O := tabL []) (root := (bodyOf f9)) (π := [1, 1, 1, 0, 1, 0, 0]) (id := 0) (Li := [(0, .sl), (3, .sl), (4, .int .i64)]) (Lo := [(3, .sl)]) (S := (fun n x w => book_Bytes_l0 K n x.1 x.2.1 x.2.2.1 w)) (body := cd (bodyOf f9) [1, 1, 1, 0, 1, 0, 0]) (book_Bytes_Eok K) (book_Bytes_Rok K) rfl (Orc.nil _ _ _) (by kernel_rfl) (fun _ _ => by kernel_rfl) (fun _ _ _ => by kernel_rfl) n
noncomputable def book_Bytes_l0_se (K : Nat) : SE := stmtN [(0, .sl), (3, .sl), (4, .int .i64)] [(3, .sl)] [(3, 5), (9, 19)] (fun x w => book_Bytes_l0 K K x.1 x.2.1 x.2.2.1 w)
theorem book_Bytes_l0_se_ok (K : Nat) (R : Rg) (h : subRB [(3, 5), (9, 19)] R = true) : (book_Bytes_l0_se K).Ok prog R (.block 0 (.loop (cd (bodyOf f9) [1, 1, 1, 0, 1, 0, 0]))) := stmtN_ok (Li := [(0, .sl), (3, .sl), (4, .int .i64)]) (Lo := [(3, .sl)]) (S := (fun x w => book_Bytes_l0 K K x.1 x.2.1 x.2.2.1 w)) (book_Bytes_l0_ok K K) (subR_of h)
theorem book_Bytes_facts : FunFacts prog 9 f9 (bodyOf f9) [(0, .sl)] [(0, 24)] := ⟨func9, by kernel_rfl, by kernel_rfl, by kernel_rfl, by kernel_rfl, by kernel_rfl⟩
theorem book_Bytes_calls (K : Nat) (x : TT [(0, .sl)]) (w : World) (y : TR [.sl]) (w2 : World) (h : book_Bytes K x.1 w = some (y, w2)) : Calls prog 9 (encA [(0, .sl)] x).toArray w (fun e w3 => e = .returned (resV (encR [.sl] y)) ∧ w3 = w2) :=
    mk_fun (O := tabL [([1, 1, 1, 0, 1], book_Bytes_l0_se K)]) (Lp := [(0, .sl)]) (Rt := [.sl]) (S := (fun x w => book_Bytes K x.1 w)) (book_Bytes_Eok K) (book_Bytes_Rok K) rfl book_Bytes_facts (Orc.cons (by kernel_rfl) (book_Bytes_l0_se_ok K [(0, 24)] (by kernel_rfl)) (Orc.nil _ _ _)) (fun _ _ => by kernel_rfl) x w y w2 h
noncomputable def book_Bytes_ce (K : Nat) : CE := funE [(0, .sl)] [.sl] (fun x w => book_Bytes K x.1 w)
theorem book_Bytes_ok (K : Nat) : (book_Bytes_ce K).Ok prog 9 := funE_ok (Rt := [.sl]) (S := (fun x w => book_Bytes K x.1 w)) book_Bytes_facts fun x w y w2 h => book_Bytes_calls K x w y w2 h

noncomputable def rijndael_Times_R (K : Nat) : List (Nat × RE) := []
theorem rijndael_Times_Rok (K : Nat) : REnv.Ok prog (tab (rijndael_Times_R K)) := (REnv.nil _)
noncomputable def rijndael_Times_s1 (K : Nat) (a0 : Int) (p5 : Int) (a11 : Bool) : Option (Out (Int × Unit) (Int × Unit)) :=
  if a11 = true then (some (.norm ((bits .xor .u8 p5 a0), ()))) else (some (.norm (p5, ())))
noncomputable def rijndael_Times_l0_b (K : Nat) (rec : Int → Int → Int → Option (Out (Int × Unit) (Int × Unit))) (a0 : Int) (b1 : Int) (p5 : Int) : Option (Out (Int × Unit) (Int × Unit)) :=
  if (b1 != 0) = true then ((rijndael_Times_s1 K a0 p5 ((bits .and .u8 b1 1) != 0)).bind fun y_1 =>
  (match y_1 with
  | .norm z_2n => (if ((bits .and .u8 a0 128) != 0) = true then (rec (bits .xor .u8 (IntKind.u8.wrap (a0 * 2 ^ 1)) 27) (Int.fdiv b1 (2 ^ 1)) z_2n.1) else (rec (IntKind.u8.wrap (a0 * 2 ^ 1)) (Int.fdiv b1 (2 ^ 1)) z_2n.1))
  | .ret z_2r => (some (.ret (z_2r.1, ()))))) else (some (.norm (p5, ())))
noncomputable def rijndael_Times_l0 (K : Nat) (n : Nat) : Int → Int → Int → Option (Out (Int × Unit) (Int × Unit)) := iter (fun _ _ _ => none) (rijndael_Times_l0_b K) n
/-- coffer/rijndael.Times -/
noncomputable def rijndael_Times (K : Nat) (a0 : Int) (b1 : Int) : Option (Int × Unit) :=
  (rijndael_Times_l0 K K a0 b1 0).bind fun y_3 =>
  (match y_3 with
  | .norm z_4n => (some (z_4n.1, ()))
  | .ret z_4r => (some (z_4r.1, ())))
theorem rijndael_Times_s1_ok (K : Nat) : StmtQOk prog [(0, .int .u8), (5, .int .u8), (11, .bool)] [(5, .int .u8)] [(4, .int .u8)] [(5, 6), (12, 15)] (fun x w => rijndael_Times_s1 K x.1 x.2.1 x.2.2.1) (cd (bodyOf f75) [1, 1, 0, 0, 0, 1, 0, 0, 1]) :=
    mk_stmtQ (O := tabL []) (root := (bodyOf f75)) (π := [1, 1, 0, 0, 0, 1, 0, 0, 1]) (Li := [(0, .int .u8), (5, .int .u8), (11, .bool)]) (Lo := [(5, .int .u8)]) (Lr := [(4, .int .u8)]) (S := (fun x w => rijndael_Times_s1 K x.1 x.2.1 x.2.2.1)) (rijndael_Times_Rok K) (OrcQ.nil _ _ _) (by kernel_rfl) (fun _ _ => by kernel_rfl)
noncomputable def rijndael_Times_s1_se (K : Nat) : SQ := stmtQ [(0, .int .u8), (5, .int .u8), (11, .bool)] [(5, .int .u8)] [(4, .int .u8)] [(5, 6), (12, 15)] (fun x w => rijndael_Times_s1 K x.1 x.2.1 x.2.2.1)
theorem rijndael_Times_s1_se_ok (K : Nat) (R : Rg) (h : subRB [(5, 6), (12, 15)] R = true) : (rijndael_Times_s1_se K).Ok prog R (cd (bodyOf f75) [1, 1, 0, 0, 0, 1, 0, 0, 1]) := stmtQ_ok (Li := [(0, .int .u8), (5, .int .u8), (11, .bool)]) (Lo := [(5, .int .u8)]) (Lr := [(4, .int .u8)]) (S := (fun x w => rijndael_Times_s1 K x.1 x.2.1 x.2.2.1)) (rijndael_Times_s1_ok K) (subR_of h)
theorem rijndael_Times_l0_ok (K : Nat) (n : Nat) : StmtQOk prog [(0, .int .u8), (1, .int .u8), (5, .int .u8)] [(5, .int .u8)] [(4, .int .u8)] [(0, 2), (5, 25)] ((fun n x w => rijndael_Times_l0 K n x.1 x.2.1 x.2.2.1) n) (.block 0 (.loop (cd (bodyOf f75) [1, 1, 0, 0, 0]))) :=
    mk_loopQ (O := tabL [([1, 1, 0, 0, 0, 1, 0, 0, 1], rijndael_Times_s1_se K)]) (root := (bodyOf f75)) (π := [1, 1, 0, 0, 0]) (id := 0) (Li := [(0, .int .u8), (1, .int .u8), (5, .int .u8)]) (Lo := [(5, .int .u8)]) (Lr := [(4, .int .u8)]) (S := (fun n x w => rijndael_Times_l0 K n x.1 x.2.1 x.2.2.1)) (body := cd (bodyOf f75) [1, 1, 0, 0, 0]) (rijndael_Times_Rok K) (OrcQ.cons (by kernel_rfl) (rijndael_Times_s1_se_ok K [(0, 2), (5, 25)] (by kernel_rfl)) (OrcQ.nil _ _ _)) (by kernel_rfl) (fun _ _ => by kernel_rfl) (fun _ _ _ => by kernel_rfl) n
noncomputable def rijndael_Times_l0_se (K : Nat) : SQ := stmtQ [(0, .int .u8), (1, .int .u8), (5, .int .u8)] [(5, .int .u8)] [(4, .int .u8)] [(0, 2), (5, 25)] (fun x w => rijndael_Times_l0 K K x.1 x.2.1 x.2.2.1)
theorem rijndael_Times_l0_se_ok (K : Nat) (R : Rg) (h : subRB [(0, 2), (5, 25)] R = true) : (rijndael_Times_l0_se K).Ok prog R (.block 0 (.loop (cd (bodyOf f75) [1, 1, 0, 0, 0]))) := stmtQ_ok (Li := [(0, .int .u8), (1, .int .u8), (5, .int .u8)]) (Lo := [(5, .int .u8)]) (Lr := [(4, .int .u8)]) (S := (fun x w => rijndael_Times_l0 K K x.1 x.2.1 x.2.2.1)) (rijndael_Times_l0_ok K K) (subR_of h)
theorem rijndael_Times_facts : FunFacts prog 75 f75 (bodyOf f75) [(0, .int .u8), (1, .int .u8)] [(0, 26)] := ⟨func75, by kernel_rfl, by kernel_rfl, by kernel_rfl, by kernel_rfl, by kernel_rfl⟩
theorem rijndael_Times_calls (K : Nat) (x : TT [(0, .int .u8), (1, .int .u8)]) (w : World) (y : TR [.int .u8]) (h : rijndael_Times K x.1 x.2.1 = some y) : Calls prog 75 (encA [(0, .int .u8), (1, .int .u8)] x).toArray w (fun e w3 => e = .returned (resV (encR [.int .u8] y)) ∧ w3 = w) :=
    mk_funQ (O := tabL [([1, 1, 0], rijndael_Times_l0_se K), ([1, 1, 0, 0, 0, 1, 0, 0, 1], rijndael_Times_s1_se K)]) (Lp := [(0, .int .u8), (1, .int .u8)]) (Rt := [.int .u8]) (S := (fun x w => rijndael_Times K x.1 x.2.1)) (rijndael_Times_Rok K) rijndael_Times_facts (OrcQ.cons (by kernel_rfl) (rijndael_Times_l0_se_ok K [(0, 26)] (by kernel_rfl)) (OrcQ.cons (by kernel_rfl) (rijndael_Times_s1_se_ok K [(0, 26)] (by kernel_rfl)) (OrcQ.nil _ _ _))) (fun _ _ => by kernel_rfl) x w y h
noncomputable def rijndael_Times_re (K : Nat) : RE := funR [(0, .int .u8), (1, .int .u8)] [.int .u8] (fun x w => rijndael_Times K x.1 x.2.1)
theorem rijndael_Times_ok (K : Nat) : (rijndael_Times_re K).Ok prog 75 := funR_ok (Rt := [.int .u8]) (S := (fun x w => rijndael_Times K x.1 x.2.1)) rijndael_Times_facts fun x w y h => rijndael_Times_calls K x w y h

noncomputable def rijndael_turn_R : List (Nat × RE) := []
theorem rijndael_turn_Rok : REnv.Ok prog (tab (rijndael_turn_R)) := (REnv.nil _)
/-- coffer/rijndael.turn -/
noncomputable def rijndael_turn (b0 : Int) (n1 : Int) : Option (Int × Unit) :=
  if (0 : Int) ≤ n1 then (if (0 : Int) ≤ (IntKind.u64.wrap (8 - n1)) then (some ((bits .or .u8 (IntKind.u8.wrap (b0 * 2 ^ (min (Int.toNat n1) IntKind.u8.bits))) (Int.fdiv b0 (2 ^ (min (Int.toNat (IntKind.u64.wrap (8 - n1))) IntKind.u8.bits)))), ())) else none) else none
theorem rijndael_turn_facts : FunFacts prog 76 f76 (bodyOf f76) [(0, .int .u8), (1, .int .u64)] [(0, 13)] := ⟨func76, by kernel_rfl, by kernel_rfl, by kernel_rfl, by kernel_rfl, by kernel_rfl⟩
theorem rijndael_turn_calls (x : TT [(0, .int .u8), (1, .int .u64)]) (w : World) (y : TR [.int .u8]) (h : rijndael_turn x.1 x.2.1 = some y) : Calls prog 76 (encA [(0, .int .u8), (1, .int .u64)] x).toArray w (fun e w3 => e = .returned (resV (encR [.int .u8] y)) ∧ w3 = w) :=
    mk_funQ (O := tabL []) (Lp := [(0, .int .u8), (1, .int .u64)]) (Rt := [.int .u8]) (S := (fun x w => rijndael_turn x.1 x.2.1)) (rijndael_turn_Rok) rijndael_turn_facts (OrcQ.nil _ _ _) (fun _ _ => by kernel_rfl) x w y h
noncomputable def rijndael_turn_re : RE := funR [(0, .int .u8), (1, .int .u64)] [.int .u8] (fun x w => rijndael_turn x.1 x.2.1)
theorem rijndael_turn_ok : (rijndael_turn_re).Ok prog 76 := funR_ok (Rt := [.int .u8]) (S := (fun x w => rijndael_turn x.1 x.2.1)) rijndael_turn_facts fun x w y h => rijndael_turn_calls x w y h

noncomputable def rijndael_substitutions_E (K : Nat) : List (Nat × CE) := []
theorem rijndael_substitutions_Eok (K : Nat) : Env.Ok prog (tab (rijndael_substitutions_E K)) := (Env.nil _)
noncomputable def rijndael_substitutions_R (K : Nat) : List (Nat × RE) := [(75, rijndael_Times_re K), (76, rijndael_turn_re)]
theorem rijndael_substitutions_Rok (K : Nat) : REnv.Ok prog (tab (rijndael_substitutions_R K)) := (REnv.cons (rijndael_Times_ok K) (REnv.cons (rijndael_turn_ok) (REnv.nil _)))
noncomputable def rijndael_substitutions_l0_b (K : Nat) (rec : Addr → Addr → Int → Int → World → Option ((Out (Unit) (Addr × Unit)) × World)) (a0 : Addr) (t1 : Addr) (p2 : Int) (q3 : Int) (w : World) : Option ((Out (Unit) (Addr × Unit)) × World) :=
  (rijndael_Times K p2 3).bind fun r_6 =>
  (rijndael_Times K q3 246).bind fun r_7 =>
  (rijndael_turn r_7.1 1).bind fun r_8 =>
  (rijndael_turn r_7.1 2).bind fun r_9 =>
  (rijndael_turn r_7.1 3).bind fun r_10 =>
  (rijndael_turn r_7.1 4).bind fun r_11 =>
  if (0 : Int) ≤ r_6.1 ∧ r_6.1 < ((256 : Nat) : Int) then ((stC (t1.add ((Int.toNat r_6.1) * 1)) (.int .u8 (bits .xor .u8 (bits .xor .u8 (bits .xor .u8 (bits .xor .u8 (bits .xor .u8 r_7.1 r_8.1) r_9.1) r_10.1) r_11.1) 99)) w).bind fun w_12 =>
  if (r_6.1 == 1) = true then ((ldA 256 t1 w_12).bind fun v_13 =>
  if (v_13).size = 256 then ((stA a0 v_13 w_12).bind fun w_14 =>
  some (.ret (a0, ()), w_14)) else none) else (rec a0 t1 r_6.1 r_7.1 w_12)) else none
noncomputable def rijndael_substitutions_l0 (K : Nat) (n : Nat) : Addr → Addr → Int → Int → World → Option ((Out (Unit) (Addr × Unit)) × World) := iter (fun _ _ _ _ _ => none) (rijndael_substitutions_l0_b K) n
/-- coffer/rijndael.substitutions -/
noncomputable def rijndael_substitutions (K : Nat)  (w : World) : Option (((Array Value) × Unit) × World) :=
  bnd (newB z93 93 w) fun p_1 w_2 =>
  bnd (newB z93 93 w_2) fun t_3 w_4 =>
  (stC (t_3.add (0 * 1)) (.int .u8 99) w_4).bind fun w_5 =>
  bnd (rijndael_substitutions_l0 K K p_1 t_3 1 1 w_5) fun y_15 w_16 =>
  (match y_15 with
  | .norm z_17n => ((ldA 256 p_1 w_16).bind fun res_18 =>
  some ((res_18, ()), w_16))
  | .ret z_17r => ((ldA 256 z_17r.1 w_16).bind fun res_19 =>
  some ((res_19, ()), w_16)))
theorem rijndael_substitutions_l0_ok (K : Nat) (n : Nat) : StmtOk prog [(0, .addr), (1, .addr), (2, .int .u8), (3, .int .u8)] [] [(0, .addr)] [(2, 4), (5, 28)] ((fun n x w => rijndael_substitutions_l0 K n x.1 x.2.1 x.2.2.1 x.2.2.2.1 w) n) (.block 0 (.loop (cd (bodyOf f61) [1, 1, 1, 1, 0, 0]))) :=
    mk_loop (O := tabL []) (root := (bodyOf f61)) (π := [1, 1, 1, 1, 0, 0]) (id := 0) (Li := [(0, .addr), (1, .addr), (2, .int .u8), (3, .int .u8)]) (Lo := []) (Lr := [(0, .addr)]) (S := (fun n x w => rijndael_substitutions_l0 K n x.1 x.2.1 x.2.2.1 x.2.2.2.1 w)) (body := cd (bodyOf f61) [1, 1, 1, 1, 0, 0]) (rijndael_substitutions_Eok K) (rijndael_substitutions_Rok K) rfl (Orc.nil _ _ _) (by kernel_rfl) (fun _ _ => by kernel_rfl) (fun _ _ _ => by kernel_rfl) n
noncomputable def rijndael_substitutions_l0_se (K : Nat) : SE := stmt [(0, .addr), (1, .addr), (2, .int .u8), (3, .int .u8)] [] [(0, .addr)] [(2, 4), (5, 28)] (fun x w => rijndael_substitutions_l0 K K x.1 x.2.1 x.2.2.1 x.2.2.2.1 w)
theorem rijndael_substitutions_l0_se_ok (K : Nat) (R : Rg) (h : subRB [(2, 4), (5, 28)] R = true) : (rijndael_substitutions_l0_se K).Ok prog R (.block 0 (.loop (cd (bodyOf f61) [1, 1, 1, 1, 0, 0]))) := stmt_ok (Li := [(0, .addr), (1, .addr), (2, .int .u8), (3, .int .u8)]) (Lo := []) (Lr := [(0, .addr)]) (S := (fun x w => rijndael_substitutions_l0 K K x.1 x.2.1 x.2.2.1 x.2.2.2.1 w)) (rijndael_substitutions_l0_ok K K) (subR_of h)
theorem rijndael_substitutions_facts : FunFacts prog 61 f61 (bodyOf f61) [] [(0, 28)] := ⟨func61, by kernel_rfl, by kernel_rfl, by kernel_rfl, by kernel_rfl, by kernel_rfl⟩
theorem rijndael_substitutions_calls (K : Nat) (x : TT []) (w : World) (y : TR [.agg]) (w2 : World) (h : rijndael_substitutions K  w = some (y, w2)) : Calls prog 61 (encA [] x).toArray w (fun e w3 => e = .returned (resV (encR [.agg] y)) ∧ w3 = w2) :=
    mk_fun (O := tabL [([1, 1, 1, 1], rijndael_substitutions_l0_se K)]) (Lp := []) (Rt := [.agg]) (S := (fun x w => rijndael_substitutions K  w)) (rijndael_substitutions_Eok K) (rijndael_substitutions_Rok K) rfl rijndael_substitutions_facts (Orc.cons (by kernel_rfl) (rijndael_substitutions_l0_se_ok K [(0, 28)] (by kernel_rfl)) (Orc.nil _ _ _)) (fun _ _ => by kernel_rfl) x w y w2 h
noncomputable def rijndael_substitutions_ce (K : Nat) : CE := funE [] [.agg] (fun x w => rijndael_substitutions K  w)
theorem rijndael_substitutions_ok (K : Nat) : (rijndael_substitutions_ce K).Ok prog 61 := funE_ok (Rt := [.agg]) (S := (fun x w => rijndael_substitutions K  w)) rijndael_substitutions_facts fun x w y w2 h => rijndael_substitutions_calls K x w y w2 h

noncomputable def rijndael_inverse_E (K : Nat) : List (Nat × CE) := []
theorem rijndael_inverse_Eok (K : Nat) : Env.Ok prog (tab (rijndael_inverse_E K)) := (Env.nil _)
noncomputable def rijndael_inverse_R (K : Nat) : List (Nat × RE) := []
theorem rijndael_inverse_Rok (K : Nat) : REnv.Ok prog (tab (rijndael_inverse_R K)) := (REnv.nil _)
noncomputable def rijndael_inverse_l0_b (K : Nat) (rec : Addr → Addr → Array Value → Int → World → Option ((Unit) × World)) (a2 : Addr) (u3 : Addr) (a6 : Array Value) (a7 : Int) (w : World) : Option ((Unit) × World) :=
  if (decide (a7 < 256)) = true then (if (0 : Int) ≤ a7 ∧ a7 < ((256 : Nat) : Int) then ((a6[((Int.toNat a7) * 1)]?).bind fun v_8 =>
  (asI .u8 v_8).bind fun v_9 =>
  if (0 : Int) ≤ v_9 ∧ v_9 < ((256 : Nat) : Int) then ((stC (u3.add ((Int.toNat v_9) * 1)) (.int .u8 (IntKind.u8.wrap a7)) w).bind fun w_10 =>
  rec a2 u3 a6 (IntKind.i64.wrap (a7 + 1)) w_10) else none) else none) else (some ((), w))
noncomputable def rijndael_inverse_l0 (K : Nat) (n : Nat) : Addr → Addr → Array Value → Int → World → Option ((Unit) × World) := iter (fun _ _ _ _ _ => none) (rijndael_inverse_l0_b K) n
/-- coffer/rijndael.inverse -/
noncomputable def rijndael_inverse (K : Nat) (t0 : Array Value) (w : World) : Option (((Array Value) × Unit) × World) :=
  bnd (newB t0 93 w) fun p_1 w_2 =>
  bnd (newB z93 93 w_2) fun p_3 w_4 =>
  bnd (newB z93 93 w_4) fun u_5 w_6 =>
  (ldA 256 p_1 w_6).bind fun v_7 =>
  bnd (rijndael_inverse_l0 K K p_3 u_5 v_7 0 w_6) fun y_11 w_12 =>
  (ldA 256 u_5 w_12).bind fun v_13 =>
  if (v_13).size = 256 then ((stA p_3 v_13 w_12).bind fun w_14 =>
  (ldA 256 p_3 w_14).bind fun res_15 =>
  some ((res_15, ()), w_14)) else none
theorem rijndael_inverse_l0_ok (K : Nat) (n : Nat) : StmtNOk prog [(2, .addr), (3, .addr), (6, .agg), (7, .int .i64)] [] [(4, 6), (7, 16)] ((fun n x w => rijndael_inverse_l0 K n x.1 x.2.1 x.2.2.1 x.2.2.2.1 w) n) (.block 0 (.loop (cd (bodyOf f62) [1, 1, 0, 1, 0, 0]))) :=
    mk_loopN (O := tabL []) (root := (bodyOf f62)) (π := [1, 1, 0, 1, 0, 0]) (id := 0) (Li := [(2, .addr), (3, .addr), (6, .agg), (7, .int .i64)]) (Lo := []) (S := (fun n x w => rijndael_inverse_l0 K n x.1 x.2.1 x.2.2.1 x.2.2.2.1 w)) (body := cd (bodyOf f62) [1, 1, 0, 1, 0, 0]) (rijndael_inverse_Eok K) (rijndael_inverse_Rok K) rfl (Orc.nil _ _ _) (by kernel_rfl) (fun _ _ => by kernel_rfl) (fun _ _ _ => by kernel_rfl) n
noncomputable def rijndael_inverse_l0_se (K : Nat) : SE := stmtN [(2, .addr), (3, .addr), (6, .agg), (7, .int .i64)] [] [(4, 6), (7, 16)] (fun x w => rijndael_inverse_l0 K K x.1 x.2.1 x.2.2.1 x.2.2.2.1 w)
theorem rijndael_inverse_l0_se_ok (K : Nat) (R : Rg) (h : subRB [(4, 6), (7, 16)] R = true) : (rijndael_inverse_l0_se K).Ok prog R (.block 0 (.loop (cd (bodyOf f62) [1, 1, 0, 1, 0, 0]))) := stmtN_ok (Li := [(2, .addr), (3, .addr), (6, .agg), (7, .int .i64)]) (Lo := []) (S := (fun x w => rijndael_inverse_l0 K K x.1 x.2.1 x.2.2.1 x.2.2.2.1 w)) (rijndael_inverse_l0_ok K K) (subR_of h)
theorem rijndael_inverse_facts : FunFacts prog 62 f62 (bodyOf f62) [(0, .agg)] [(0, 17)] := ⟨func62, by kernel_rfl, by kernel_rfl, by kernel_rfl, by kernel_rfl, by kernel_rfl⟩
theorem rijndael_inverse_calls (K : Nat) (x : TT [(0, .agg)]) (w : World) (y : TR [.agg]) (w2 : World) (h : rijndael_inverse K x.1 w = some (y, w2)) : Calls prog 62 (encA [(0, .agg)] x).toArray w (fun e w3 => e = .returned (resV (encR [.agg] y)) ∧ w3 = w2) :=
    mk_fun (O := tabL [([1, 1, 0, 1], rijndael_inverse_l0_se K)]) (Lp := [(0, .agg)]) (Rt := [.agg]) (S := (fun x w => rijndael_inverse K x.1 w)) (rijndael_inverse_Eok K) (rijndael_inverse_Rok K) rfl rijndael_inverse_facts (Orc.cons (by kernel_rfl) (rijndael_inverse_l0_se_ok K [(0, 17)] (by kernel_rfl)) (Orc.nil _ _ _)) (fun _ _ => by kernel_rfl) x w y w2 h
noncomputable def rijndael_inverse_ce (K : Nat) : CE := funE [(0, .agg)] [.agg] (fun x w => rijndael_inverse K x.1 w)
theorem rijndael_inverse_ok (K : Nat) : (rijndael_inverse_ce K).Ok prog 62 := funE_ok (Rt := [.agg]) (S := (fun x w => rijndael_inverse K x.1 w)) rijndael_inverse_facts fun x w y w2 h => rijndael_inverse_calls K x w y w2 h

noncomputable def rijndael_products_E (K : Nat) : List (Nat × CE) := []
theorem rijndael_products_Eok (K : Nat) : Env.Ok prog (tab (rijndael_products_E K)) := (Env.nil _)
noncomputable def rijndael_products_R (K : Nat) : List (Nat × RE) := [(75, rijndael_Times_re K)]
theorem rijndael_products_Rok (K : Nat) : REnv.Ok prog (tab (rijndael_products_R K)) := (REnv.cons (rijndael_Times_ok K) (REnv.nil _))
noncomputable def rijndael_products_l1_b (K : Nat) (rec : Sl → Addr → Addr → Int → Int → Array Value → Int → Int → World → Option ((Unit) × World)) (by1 : Sl) (a4 : Addr) (out5 : Addr) (i6 : Int) (w8 : Int) (a10 : Array Value) (a11 : Int) (a45 : Int) (w : World) : Option ((Unit) × World) :=
  if (decide (a45 < 4)) = true then (if (0 : Int) ≤ (IntKind.i64.wrap (8 * a45)) then (if (0 : Int) ≤ (IntKind.i64.wrap (32 - (IntKind.i64.wrap (8 * a45)))) then (if (0 : Int) ≤ a45 ∧ a45 < ((4 : Nat) : Int) then (if (0 : Int) ≤ i6 ∧ i6 < ((256 : Nat) : Int) then ((stC ((out5.add ((Int.toNat a45) * 256)).add ((Int.toNat i6) * 1)) (.int .u32 (bits .or .u32 (Int.fdiv w8 (2 ^ (min (Int.toNat (IntKind.i64.wrap (8 * a45))) IntKind.u32.bits))) (IntKind.u32.wrap (w8 * 2 ^ (min (Int.toNat (IntKind.i64.wrap (32 - (IntKind.i64.wrap (8 * a45))))) IntKind.u32.bits))))) w.drew).bind fun w_22 =>
  rec by1 a4 out5 i6 w8 a10 a11 (IntKind.i64.wrap (a45 + 1)) w_22) else none) else none) else none) else none) else (some ((), w))
noncomputable def rijndael_products_l1 (K : Nat) (n : Nat) : Sl → Addr → Addr → Int → Int → Array Value → Int → Int → World → Option ((Unit) × World) := iter (fun _ _ _ _ _ _ _ _ _ => none) (rijndael_products_l1_b K) n
noncomputable def rijndael_products_l0_b (K : Nat) (rec : Sl → Addr → Addr → Array Value → Int → World → Option ((Unit) × World)) (by1 : Sl) (a4 : Addr) (out5 : Addr) (a10 : Array Value) (a11 : Int) (w : World) : Option ((Unit) × World) :=
  if (decide (a11 < 256)) = true then (if (0 : Int) ≤ a11 ∧ a11 < ((256 : Nat) : Int) then ((a10[((Int.toNat a11) * 1)]?).bind fun v_8 =>
  (asI .u8 v_8).bind fun v_9 =>
  (by1.a).bind fun p_10 =>
  if (0 : Int) ≤ 0 ∧ 0 < ((by1.len : Nat) : Int) then ((by1.a).bind fun p_11 =>
  if (0 : Int) ≤ 1 ∧ 1 < ((by1.len : Nat) : Int) then ((by1.a).bind fun p_12 =>
  if (0 : Int) ≤ 2 ∧ 2 < ((by1.len : Nat) : Int) then ((by1.a).bind fun p_13 =>
  if (0 : Int) ≤ 3 ∧ 3 < ((by1.len : Nat) : Int) then ((ldI .u8 (p_10.add (0 * 1)) w.drew).bind fun v_14 =>
  (rijndael_Times K v_9 v_14).bind fun r_15 =>
  (ldI .u8 (p_11.add (1 * 1)) w.drew).bind fun v_16 =>
  (rijndael_Times K v_9 v_16).bind fun r_17 =>
  (ldI .u8 (p_12.add (2 * 1)) w.drew).bind fun v_18 =>
  (rijndael_Times K v_9 v_18).bind fun r_19 =>
  (ldI .u8 (p_13.add (3 * 1)) w.drew).bind fun v_20 =>
  (rijndael_Times K v_9 v_20).bind fun r_21 =>
  bnd (rijndael_products_l1 K K by1 a4 out5 a11 (bits .or .u32 (bits .or .u32 (bits .or .u32 (IntKind.u32.wrap ((IntKind.u32.wrap r_15.1) * 2 ^ 24)) (IntKind.u32.wrap ((IntKind.u32.wrap r_17.1) * 2 ^ 16))) (IntKind.u32.wrap ((IntKind.u32.wrap r_19.1) * 2 ^ 8))) (IntKind.u32.wrap r_21.1)) a10 a11 0 w.drew) fun y_23 w_24 =>
  rec by1 a4 out5 a10 (IntKind.i64.wrap (a11 + 1)) w_24) else none) else none) else none) else none) else none) else (some ((), w))
noncomputable def rijndael_products_l0 (K : Nat) (n : Nat) : Sl → Addr → Addr → Array Value → Int → World → Option ((Unit) × World) := iter (fun _ _ _ _ _ _ => none) (rijndael_products_l0_b K) n
/-- coffer/rijndael.products -/
noncomputable def rijndael_products (K : Nat) (t0 : Array Value) (by1 : Sl) (w : World) : Option (((Array Value) × Unit) × World) :=
  bnd (newB t0 93 w) fun p_1 w_2 =>
  bnd (newB z128 128 w_2) fun p_3 w_4 =>
  bnd (newB z128 128 w_4) fun out_5 w_6 =>
  (ldA 256 p_1 w_6).bind fun v_7 =>
  bnd (rijndael_products_l0 K K by1 p_3 out_5 v_7 0 w_6) fun y_25 w_26 =>
  (ldA 1024 out_5 w_26).bind fun v_27 =>
  if (v_27).size = 1024 then ((stA p_3 v_27 w_26).bind fun w_28 =>
  (ldA 1024 p_3 w_28).bind fun res_29 =>
  some ((res_29, ()), w_28)) else none
theorem rijndael_products_l1_ok (K : Nat) (n : Nat) : StmtNOk prog [(1, .sl), (4, .addr), (5, .addr), (6, .int .i64), (8, .int .u32), (10, .agg), (11, .int .i64), (45, .int .i64)] [] [(9, 10), (45, 63)] ((fun n x w => rijndael_products_l1 K n x.1 x.2.1 x.2.2.1 x.2.2.2.1 x.2.2.2.2.1 x.2.2.2.2.2.1 x.2.2.2.2.2.2.1 x.2.2.2.2.2.2.2.1 w) n) (.block 2 (.loop (cd (bodyOf f63) [1, 1, 0, 1, 0, 0, 1, 1, 0, 0, 1, 1, 1, 0, 0]))) :=
    mk_loopN (O := tabL []) (root := (bodyOf f63)) (π := [1, 1, 0, 1, 0, 0, 1, 1, 0, 0, 1, 1, 1, 0, 0]) (id := 2) (Li := [(1, .sl), (4, .addr), (5, .addr), (6, .int .i64), (8, .int .u32), (10, .agg), (11, .int .i64), (45, .int .i64)]) (Lo := []) (S := (fun n x w => rijndael_products_l1 K n x.1 x.2.1 x.2.2.1 x.2.2.2.1 x.2.2.2.2.1 x.2.2.2.2.2.1 x.2.2.2.2.2.2.1 x.2.2.2.2.2.2.2.1 w)) (body := cd (bodyOf f63) [1, 1, 0, 1, 0, 0, 1, 1, 0, 0, 1, 1, 1, 0, 0]) (rijndael_products_Eok K) (rijndael_products_Rok K) rfl (Orc.nil _ _ _) (by kernel_rfl) (fun _ _ => by kernel_rfl) (fun _ _ _ => by kernel_rfl) n
noncomputable def rijndael_products_l1_se (K : Nat) : SE := stmtN [(1, .sl), (4, .addr), (5, .addr), (6, .int .i64), (8, .int .u32), (10, .agg), (11, .int .i64), (45, .int .i64)] [] [(9, 10), (45, 63)] (fun x w => rijndael_products_l1 K K x.1 x.2.1 x.2.2.1 x.2.2.2.1 x.2.2.2.2.1 x.2.2.2.2.2.1 x.2.2.2.2.2.2.1 x.2.2.2.2.2.2.2.1 w)
theorem rijndael_products_l1_se_ok (K : Nat) (R : Rg) (h : subRB [(9, 10), (45, 63)] R = true) : (rijndael_products_l1_se K).Ok prog R (.block 2 (.loop (cd (bodyOf f63) [1, 1, 0, 1, 0, 0, 1, 1, 0, 0, 1, 1, 1, 0, 0]))) := stmtN_ok (Li := [(1, .sl), (4, .addr), (5, .addr), (6, .int .i64), (8, .int .u32), (10, .agg), (11, .int .i64), (45, .int .i64)]) (Lo := []) (S := (fun x w => rijndael_products_l1 K K x.1 x.2.1 x.2.2.1 x.2.2.2.1 x.2.2.2.2.1 x.2.2.2.2.2.1 x.2.2.2.2.2.2.1 x.2.2.2.2.2.2.2.1 w)) (rijndael_products_l1_ok K K) (subR_of h)
theorem rijndael_products_l0_ok (K : Nat) (n : Nat) : StmtNOk prog [(1, .sl), (4, .addr), (5, .addr), (10, .agg), (11, .int .i64)] [] [(6, 10), (11, 64)] ((fun n x w => rijndael_products_l0 K n x.1 x.2.1 x.2.2.1 x.2.2.2.1 x.2.2.2.2.1 w) n) (.block 0 (.loop (cd (bodyOf f63) [1, 1, 0, 1, 0, 0]))) :=
    mk_loopN (O := tabL [([1, 1, 0, 1, 0, 0, 1, 1, 0, 0, 1, 1, 1], rijndael_products_l1_se K)]) (root := (bodyOf f63)) (π := [1, 1, 0, 1, 0, 0]) (id := 0) (Li := [(1, .sl), (4, .addr), (5, .addr), (10, .agg), (11, .int .i64)]) (Lo := []) (S := (fun n x w => rijndael_products_l0 K n x.1 x.2.1 x.2.2.1 x.2.2.2.1 x.2.2.2.2.1 w)) (body := cd (bodyOf f63) [1, 1, 0, 1, 0, 0]) (rijndael_products_Eok K) (rijndael_products_Rok K) rfl (Orc.cons (by kernel_rfl) (rijndael_products_l1_se_ok K [(6, 10), (11, 64)] (by kernel_rfl)) (Orc.nil _ _ _)) (by kernel_rfl) (fun _ _ => by kernel_rfl) (fun _ _ _ => by kernel_rfl) n
noncomputable def rijndael_products_l0_se (K : Nat) : SE := stmtN [(1, .sl), (4, .addr), (5, .addr), (10, .agg), (11, .int .i64)] [] [(6, 10), (11, 64)] (fun x w => rijndael_products_l0 K K x.1 x.2.1 x.2.2.1 x.2.2.2.1 x.2.2.2.2.1 w)
theorem rijndael_products_l0_se_ok (K : Nat) (R : Rg) (h : subRB [(6, 10), (11, 64)] R = true) : (rijndael_products_l0_se K).Ok prog R (.block 0 (.loop (cd (bodyOf f63) [1, 1, 0, 1, 0, 0]))) := stmtN_ok (Li := [(1, .sl), (4, .addr), (5, .addr), (10, .agg), (11, .int .i64)]) (Lo := []) (S := (fun x w => rijndael_products_l0 K K x.1 x.2.1 x.2.2.1 x.2.2.2.1 x.2.2.2.2.1 w)) (rijndael_products_l0_ok K K) (subR_of h)
theorem rijndael_products_facts : FunFacts prog 63 f63 (bodyOf f63) [(0, .agg), (1, .sl)] [(0, 65)] := ⟨func63, by kernel_rfl, by kernel_rfl, by kernel_rfl, by kernel_rfl, by kernel_rfl⟩
theorem rijndael_products_calls (K : Nat) (x : TT [(0, .agg), (1, .sl)]) (w : World) (y : TR [.agg]) (w2 : World) (h : rijndael_products K x.1 x.2.1 w = some (y, w2)) : Calls prog 63 (encA [(0, .agg), (1, .sl)] x).toArray w (fun e w3 => e = .returned (resV (encR [.agg] y)) ∧ w3 = w2) :=
    mk_fun (O := tabL [([1, 1, 0, 1], rijndael_products_l0_se K), ([1, 1, 0, 1, 0, 0, 1, 1, 0, 0, 1, 1, 1], rijndael_products_l1_se K)]) (Lp := [(0, .agg), (1, .sl)]) (Rt := [.agg]) (S := (fun x w => rijndael_products K x.1 x.2.1 w)) (rijndael_products_Eok K) (rijndael_products_Rok K) rfl rijndael_products_facts (Orc.cons (by kernel_rfl) (rijndael_products_l0_se_ok K [(0, 65)] (by kernel_rfl)) (Orc.cons (by kernel_rfl) (rijndael_products_l1_se_ok K [(0, 65)] (by kernel_rfl)) (Orc.nil _ _ _))) (fun _ _ => by kernel_rfl) x w y w2 h
noncomputable def rijndael_products_ce (K : Nat) : CE := funE [(0, .agg), (1, .sl)] [.agg] (fun x w => rijndael_products K x.1 x.2.1 w)
theorem rijndael_products_ok (K : Nat) : (rijndael_products_ce K).Ok prog 63 := funE_ok (Rt := [.agg]) (S := (fun x w => rijndael_products K x.1 x.2.1 w)) rijndael_products_facts fun x w y w2 h => rijndael_products_calls K x w y w2 h

noncomputable def rijndael_made_E (K : Nat) : List (Nat × CE) := [(61, rijndael_substitutions_ce K), (62, rijndael_inverse_ce K), (63, rijndael_products_ce K)]
theorem rijndael_made_Eok (K : Nat) : Env.Ok prog (tab (rijndael_made_E K)) := (Env.cons (rijndael_substitutions_ok K) (Env.cons (rijndael_inverse_ok K) (Env.cons (rijndael_products_ok K) (Env.nil _))))
noncomputable def rijndael_made_R (K : Nat) : List (Nat × RE) := []
theorem rijndael_made_Rok (K : Nat) : REnv.Ok prog (tab (rijndael_made_R K)) := (REnv.nil _)
/-- coffer/rijndael.made -/
noncomputable def rijndael_made (K : Nat)  (w : World) : Option (((Option Addr) × Unit) × World) :=
  bnd (rijndael_substitutions K  w) fun r_1 w_2 =>
  (prog.built 130 [(0, (.agg r_1.1))]).bind fun cs_3 =>
  bnd (newB cs_3 130 w_2) fun p_4 w_5 =>
  (ldA 256 (p_4.add 0) w_5).bind fun v_6 =>
  bnd (rijndael_inverse K v_6 w_5) fun r_7 w_8 =>
  if (r_7.1).size = 256 then ((stA (p_4.add 256) r_7.1 w_8).bind fun w_9 =>
  (ldA 256 (p_4.add 0) w_9).bind fun v_10 =>
  bnd (bldS prog 22 4 #[(0, (.int .u8 2)), (1, (.int .u8 1)), (2, (.int .u8 1)), (3, (.int .u8 3))] w_9) fun s_11 w_12 =>
  bnd (rijndael_products K v_10 s_11 w_12) fun r_13 w_14 =>
  if (r_13.1).size = 1024 then ((stA (p_4.add 512) r_13.1 w_14).bind fun w_15 =>
  (ldA 256 (p_4.add 256) w_15).bind fun v_16 =>
  bnd (bldS prog 22 4 #[(0, (.int .u8 14)), (1, (.int .u8 9)), (2, (.int .u8 13)), (3, (.int .u8 11))] w_15) fun s_17 w_18 =>
  bnd (rijndael_products K v_16 s_17 w_18) fun r_19 w_20 =>
  if (r_19.1).size = 1024 then ((stA (p_4.add 1536) r_19.1 w_20).bind fun w_21 =>
  some (((some p_4), ()), w_21)) else none) else none) else none
theorem rijndael_made_facts : FunFacts prog 38 f38 (bodyOf f38) [] [(0, 32)] := ⟨func38, by kernel_rfl, by kernel_rfl, by kernel_rfl, by kernel_rfl, by kernel_rfl⟩
theorem rijndael_made_calls (K : Nat) (x : TT []) (w : World) (y : TR [.ptr]) (w2 : World) (h : rijndael_made K  w = some (y, w2)) : Calls prog 38 (encA [] x).toArray w (fun e w3 => e = .returned (resV (encR [.ptr] y)) ∧ w3 = w2) :=
    mk_fun (O := tabL []) (Lp := []) (Rt := [.ptr]) (S := (fun x w => rijndael_made K  w)) (rijndael_made_Eok K) (rijndael_made_Rok K) rfl rijndael_made_facts (Orc.nil _ _ _) (fun _ _ => by kernel_rfl) x w y w2 h
noncomputable def rijndael_made_ce (K : Nat) : CE := funE [] [.ptr] (fun x w => rijndael_made K  w)
theorem rijndael_made_ok (K : Nat) : (rijndael_made_ce K).Ok prog 38 := funE_ok (Rt := [.ptr]) (S := (fun x w => rijndael_made K  w)) rijndael_made_facts fun x w y w2 h => rijndael_made_calls K x w y w2 h

noncomputable def rijndael_number_R (K : Nat) : List (Nat × RE) := []
theorem rijndael_number_Rok (K : Nat) : REnv.Ok prog (tab (rijndael_number_R K)) := (REnv.nil _)
noncomputable def rijndael_number_l0_b (K : Nat) (w : World) (rec : Int → Sl → Int → Int → Option (Out (Int × Unit) (Int × Unit))) (n5 : Int) (a10 : Sl) (a11 : Int) (a12 : Int) : Option (Out (Int × Unit) (Int × Unit)) :=
  if (decide (a12 < a11)) = true then ((a10.a).bind fun p_1 =>
  if (0 : Int) ≤ a12 ∧ a12 < ((a10.len : Nat) : Int) then ((ldI .u8 (p_1.add ((Int.toNat a12) * 1)) w).bind fun v_2 =>
  rec (bits .or .u64 (IntKind.u64.wrap (n5 * 2 ^ 8)) (IntKind.u64.wrap v_2)) a10 a11 (IntKind.i64.wrap (a12 + 1))) else none) else (some (.norm (n5, ())))
noncomputable def rijndael_number_l0 (K : Nat) (n : Nat) (n5 : Int) (a10 : Sl) (a11 : Int) (a12 : Int) (w : World) : Option (Out (Int × Unit) (Int × Unit)) := iter (α := Int → Sl → Int → Int → Option (Out (Int × Unit) (Int × Unit))) (fun _ _ _ _ => none) (rijndael_number_l0_b K w) n n5 a10 a11 a12
/-- coffer/rijndael.number -/
noncomputable def rijndael_number (K : Nat) (b0 : Sl) (size1 : Int) (w : World) : Option (Int × Unit) :=
  if (0 : Int) ≤ size1 ∧ size1 ≤ ((b0.cap : Nat) : Int) then ((rijndael_number_l0 K K 0 ⟨(sla b0.a 0 b0.cap 1), ((Int.toNat (size1)) - 0), (b0.cap - 0)⟩ ((((Int.toNat (size1)) - 0) : Nat) : Int) 0 w).bind fun y_3 =>
  (match y_3 with
  | .norm z_4n => (some (z_4n.1, ()))
  | .ret z_4r => (some (z_4r.1, ())))) else none
theorem rijndael_number_l0_ok (K : Nat) (n : Nat) : StmtQOk prog [(5, .int .u64), (10, .sl), (11, .int .i64), (12, .int .i64)] [(5, .int .u64)] [(4, .int .u64)] [(5, 6), (7, 8), (12, 22)] ((fun n x w => rijndael_number_l0 K n x.1 x.2.1 x.2.2.1 x.2.2.2.1 w) n) (.block 0 (.loop (cd (bodyOf f39) [1, 1, 0, 1, 0, 0]))) :=
    mk_loopQ (O := tabL []) (root := (bodyOf f39)) (π := [1, 1, 0, 1, 0, 0]) (id := 0) (Li := [(5, .int .u64), (10, .sl), (11, .int .i64), (12, .int .i64)]) (Lo := [(5, .int .u64)]) (Lr := [(4, .int .u64)]) (S := (fun n x w => rijndael_number_l0 K n x.1 x.2.1 x.2.2.1 x.2.2.2.1 w)) (body := cd (bodyOf f39) [1, 1, 0, 1, 0, 0]) (rijndael_number_Rok K) (OrcQ.nil _ _ _) (by kernel_rfl) (fun _ _ => by kernel_rfl) (fun _ _ _ => by kernel_rfl) n
noncomputable def rijndael_number_l0_se (K : Nat) : SQ := stmtQ [(5, .int .u64), (10, .sl), (11, .int .i64), (12, .int .i64)] [(5, .int .u64)] [(4, .int .u64)] [(5, 6), (7, 8), (12, 22)] (fun x w => rijndael_number_l0 K K x.1 x.2.1 x.2.2.1 x.2.2.2.1 w)
theorem rijndael_number_l0_se_ok (K : Nat) (R : Rg) (h : subRB [(5, 6), (7, 8), (12, 22)] R = true) : (rijndael_number_l0_se K).Ok prog R (.block 0 (.loop (cd (bodyOf f39) [1, 1, 0, 1, 0, 0]))) := stmtQ_ok (Li := [(5, .int .u64), (10, .sl), (11, .int .i64), (12, .int .i64)]) (Lo := [(5, .int .u64)]) (Lr := [(4, .int .u64)]) (S := (fun x w => rijndael_number_l0 K K x.1 x.2.1 x.2.2.1 x.2.2.2.1 w)) (rijndael_number_l0_ok K K) (subR_of h)
theorem rijndael_number_facts : FunFacts prog 39 f39 (bodyOf f39) [(0, .sl), (1, .int .i64)] [(0, 23)] := ⟨func39, by kernel_rfl, by kernel_rfl, by kernel_rfl, by kernel_rfl, by kernel_rfl⟩
theorem rijndael_number_calls (K : Nat) (x : TT [(0, .sl), (1, .int .i64)]) (w : World) (y : TR [.int .u64]) (h : rijndael_number K x.1 x.2.1 w = some y) : Calls prog 39 (encA [(0, .sl), (1, .int .i64)] x).toArray w (fun e w3 => e = .returned (resV (encR [.int .u64] y)) ∧ w3 = w) :=
    mk_funQ (O := tabL [([1, 1, 0, 1], rijndael_number_l0_se K)]) (Lp := [(0, .sl), (1, .int .i64)]) (Rt := [.int .u64]) (S := (fun x w => rijndael_number K x.1 x.2.1 w)) (rijndael_number_Rok K) rijndael_number_facts (OrcQ.cons (by kernel_rfl) (rijndael_number_l0_se_ok K [(0, 23)] (by kernel_rfl)) (OrcQ.nil _ _ _)) (fun _ _ => by kernel_rfl) x w y h
noncomputable def rijndael_number_re (K : Nat) : RE := funR [(0, .sl), (1, .int .i64)] [.int .u64] (fun x w => rijndael_number K x.1 x.2.1 w)
theorem rijndael_number_ok (K : Nat) : (rijndael_number_re K).Ok prog 39 := funR_ok (Rt := [.int .u64]) (S := (fun x w => rijndael_number K x.1 x.2.1 w)) rijndael_number_facts fun x w y h => rijndael_number_calls K x w y h

noncomputable def rijndael_tables_word_E : List (Nat × CE) := []
theorem rijndael_tables_word_Eok : Env.Ok prog (tab (rijndael_tables_word_E)) := (Env.nil _)
noncomputable def rijndael_tables_word_R : List (Nat × RE) := []
theorem rijndael_tables_word_Rok : REnv.Ok prog (tab (rijndael_tables_word_R)) := (REnv.nil _)
/-- (*coffer/rijndael.tables).word -/
noncomputable def rijndael_tables_word (t0 : Option Addr) (w1 : Int) (w : World) : Option ((Int × Unit) × World) :=
  (t0).bind fun p_1 =>
  if (0 : Int) ≤ (Int.fdiv w1 (2 ^ 24)) ∧ (Int.fdiv w1 (2 ^ 24)) < ((256 : Nat) : Int) then ((t0).bind fun p_2 =>
  if (0 : Int) ≤ (bits .and .u32 (Int.fdiv w1 (2 ^ 16)) 255) ∧ (bits .and .u32 (Int.fdiv w1 (2 ^ 16)) 255) < ((256 : Nat) : Int) then ((t0).bind fun p_3 =>
  if (0 : Int) ≤ (bits .and .u32 (Int.fdiv w1 (2 ^ 8)) 255) ∧ (bits .and .u32 (Int.fdiv w1 (2 ^ 8)) 255) < ((256 : Nat) : Int) then ((t0).bind fun p_4 =>
  if (0 : Int) ≤ (bits .and .u32 w1 255) ∧ (bits .and .u32 w1 255) < ((256 : Nat) : Int) then ((ldI .u8 ((p_1.add 0).add ((Int.toNat (Int.fdiv w1 (2 ^ 24))) * 1)) w.drew).bind fun v_5 =>
  (ldI .u8 ((p_2.add 0).add ((Int.toNat (bits .and .u32 (Int.fdiv w1 (2 ^ 16)) 255)) * 1)) w.drew).bind fun v_6 =>
  (ldI .u8 ((p_3.add 0).add ((Int.toNat (bits .and .u32 (Int.fdiv w1 (2 ^ 8)) 255)) * 1)) w.drew).bind fun v_7 =>
  (ldI .u8 ((p_4.add 0).add ((Int.toNat (bits .and .u32 w1 255)) * 1)) w.drew).bind fun v_8 =>
  some (((bits .or .u32 (bits .or .u32 (bits .or .u32 (IntKind.u32.wrap ((IntKind.u32.wrap v_5) * 2 ^ 24)) (IntKind.u32.wrap ((IntKind.u32.wrap v_6) * 2 ^ 16))) (IntKind.u32.wrap ((IntKind.u32.wrap v_7) * 2 ^ 8))) (IntKind.u32.wrap v_8)), ()), w.drew)) else none) else none) else none) else none
theorem rijndael_tables_word_facts : FunFacts prog 40 f40 (bodyOf f40) [(0, .ptr), (1, .int .u32)] [(0, 45)] := ⟨func40, by kernel_rfl, by kernel_rfl, by kernel_rfl, by kernel_rfl, by kernel_rfl⟩
theorem rijndael_tables_word_calls (x : TT [(0, .ptr), (1, .int .u32)]) (w : World) (y : TR [.int .u32]) (w2 : World) (h : rijndael_tables_word x.1 x.2.1 w = some (y, w2)) : Calls prog 40 (encA [(0, .ptr), (1, .int .u32)] x).toArray w (fun e w3 => e = .returned (resV (encR [.int .u32] y)) ∧ w3 = w2) :=
    mk_fun (O := tabL []) (Lp := [(0, .ptr), (1, .int .u32)]) (Rt := [.int .u32]) (S := (fun x w => rijndael_tables_word x.1 x.2.1 w)) (rijndael_tables_word_Eok) (rijndael_tables_word_Rok) rfl rijndael_tables_word_facts (Orc.nil _ _ _) (fun _ _ => by kernel_rfl) x w y w2 h
noncomputable def rijndael_tables_word_ce : CE := funE [(0, .ptr), (1, .int .u32)] [.int .u32] (fun x w => rijndael_tables_word x.1 x.2.1 w)
theorem rijndael_tables_word_ok : (rijndael_tables_word_ce).Ok prog 40 := funE_ok (Rt := [.int .u32]) (S := (fun x w => rijndael_tables_word x.1 x.2.1 w)) rijndael_tables_word_facts fun x w y w2 h => rijndael_tables_word_calls x w y w2 h

noncomputable def rijndael_tables_inverted_E (K : Nat) : List (Nat × CE) := []
theorem rijndael_tables_inverted_Eok (K : Nat) : Env.Ok prog (tab (rijndael_tables_inverted_E K)) := (Env.nil _)
noncomputable def rijndael_tables_inverted_R (K : Nat) : List (Nat × RE) := []
theorem rijndael_tables_inverted_Rok (K : Nat) : REnv.Ok prog (tab (rijndael_tables_inverted_R K)) := (REnv.nil _)
noncomputable def rijndael_tables_inverted_s2 (K : Nat) (n5 : Int) (i7 : Int) (w : World) : Option ((Bool × Unit) × World) :=
  if (decide (i7 > 0)) = true then (some (((decide (i7 < (IntKind.i64.wrap (n5 - 4)))), ()), w)) else (some ((false, ()), w))
noncomputable def rijndael_tables_inverted_s3 (K : Nat) (t0 : Option Addr) (x9 : Int) (a38 : Bool) (w : World) : Option ((Int × Unit) × World) :=
  if a38 = true then ((t0).bind fun p_7 =>
  if (0 : Int) ≤ (Int.fdiv x9 (2 ^ 24)) ∧ (Int.fdiv x9 (2 ^ 24)) < ((256 : Nat) : Int) then ((t0).bind fun p_8 =>
  (t0).bind fun p_9 =>
  if (0 : Int) ≤ (bits .and .u32 (Int.fdiv x9 (2 ^ 16)) 255) ∧ (bits .and .u32 (Int.fdiv x9 (2 ^ 16)) 255) < ((256 : Nat) : Int) then ((t0).bind fun p_10 =>
  (t0).bind fun p_11 =>
  if (0 : Int) ≤ (bits .and .u32 (Int.fdiv x9 (2 ^ 8)) 255) ∧ (bits .and .u32 (Int.fdiv x9 (2 ^ 8)) 255) < ((256 : Nat) : Int) then ((t0).bind fun p_12 =>
  (t0).bind fun p_13 =>
  if (0 : Int) ≤ (bits .and .u32 x9 255) ∧ (bits .and .u32 x9 255) < ((256 : Nat) : Int) then ((t0).bind fun p_14 =>
  (ldI .u8 ((p_7.add 0).add ((Int.toNat (Int.fdiv x9 (2 ^ 24))) * 1)) w.drew).bind fun v_15 =>
  if (0 : Int) ≤ v_15 ∧ v_15 < ((256 : Nat) : Int) then ((ldI .u32 (((p_8.add 1536).add (0 * 256)).add ((Int.toNat v_15) * 1)) w.drew).bind fun v_16 =>
  (ldI .u8 ((p_9.add 0).add ((Int.toNat (bits .and .u32 (Int.fdiv x9 (2 ^ 16)) 255)) * 1)) w.drew).bind fun v_17 =>
  if (0 : Int) ≤ v_17 ∧ v_17 < ((256 : Nat) : Int) then ((ldI .u32 (((p_10.add 1536).add (1 * 256)).add ((Int.toNat v_17) * 1)) w.drew).bind fun v_18 =>
  (ldI .u8 ((p_11.add 0).add ((Int.toNat (bits .and .u32 (Int.fdiv x9 (2 ^ 8)) 255)) * 1)) w.drew).bind fun v_19 =>
  if (0 : Int) ≤ v_19 ∧ v_19 < ((256 : Nat) : Int) then ((ldI .u32 (((p_12.add 1536).add (2 * 256)).add ((Int.toNat v_19) * 1)) w.drew).bind fun v_20 =>
  (ldI .u8 ((p_13.add 0).add ((Int.toNat (bits .and .u32 x9 255)) * 1)) w.drew).bind fun v_21 =>
  if (0 : Int) ≤ v_21 ∧ v_21 < ((256 : Nat) : Int) then ((ldI .u32 (((p_14.add 1536).add (3 * 256)).add ((Int.toNat v_21) * 1)) w.drew).bind fun v_22 =>
  some (((bits .xor .u32 (bits .xor .u32 (bits .xor .u32 v_16 v_18) v_20) v_22), ()), w.drew)) else none) else none) else none) else none) else none) else none) else none) else none) else (some ((x9, ()), w))
noncomputable def rijndael_tables_inverted_l1_b (K : Nat) (rec : Option Addr → Sl → Int → Sl → Int → Int → World → Option ((Unit) × World)) (t0 : Option Addr) (w1 : Sl) (n5 : Int) (out6 : Sl) (i7 : Int) (a19 : Int) (w : World) : Option ((Unit) × World) :=
  if (decide (a19 < 4)) = true then ((w1.a).bind fun p_3 =>
  if (0 : Int) ≤ (IntKind.i64.wrap ((IntKind.i64.wrap ((IntKind.i64.wrap (n5 - 4)) - i7)) + a19)) ∧ (IntKind.i64.wrap ((IntKind.i64.wrap ((IntKind.i64.wrap (n5 - 4)) - i7)) + a19)) < ((w1.len : Nat) : Int) then ((ldI .u32 (p_3.add ((Int.toNat (IntKind.i64.wrap ((IntKind.i64.wrap ((IntKind.i64.wrap (n5 - 4)) - i7)) + a19))) * 1)) w).bind fun v_4 =>
  bnd (rijndael_tables_inverted_s2 K n5 i7 w) fun y_5 w_6 =>
  bnd (rijndael_tables_inverted_s3 K t0 v_4 y_5.1 w_6) fun y_23 w_24 =>
  (out6.a).bind fun p_25 =>
  if (0 : Int) ≤ (IntKind.i64.wrap (i7 + a19)) ∧ (IntKind.i64.wrap (i7 + a19)) < ((out6.len : Nat) : Int) then ((stC (p_25.add ((Int.toNat (IntKind.i64.wrap (i7 + a19))) * 1)) (.int .u32 y_23.1) w_24).bind fun w_26 =>
  rec t0 w1 n5 out6 i7 (IntKind.i64.wrap (a19 + 1)) w_26) else none) else none) else (some ((), w))
noncomputable def rijndael_tables_inverted_l1 (K : Nat) (n : Nat) : Option Addr → Sl → Int → Sl → Int → Int → World → Option ((Unit) × World) := iter (fun _ _ _ _ _ _ _ => none) (rijndael_tables_inverted_l1_b K) n
noncomputable def rijndael_tables_inverted_l0_b (K : Nat) (rec : Option Addr → Sl → Int → Sl → Int → World → Option ((Unit) × World)) (t0 : Option Addr) (w1 : Sl) (n5 : Int) (out6 : Sl) (i7 : Int) (w : World) : Option ((Unit) × World) :=
  if (decide (i7 < n5)) = true then (bnd (rijndael_tables_inverted_l1 K K t0 w1 n5 out6 i7 0 w) fun y_27 w_28 =>
  rec t0 w1 n5 out6 (IntKind.i64.wrap (i7 + 4)) w_28) else (some ((), w))
noncomputable def rijndael_tables_inverted_l0 (K : Nat) (n : Nat) : Option Addr → Sl → Int → Sl → Int → World → Option ((Unit) × World) := iter (fun _ _ _ _ _ _ => none) (rijndael_tables_inverted_l0_b K) n
/-- (*coffer/rijndael.tables).inverted -/
noncomputable def rijndael_tables_inverted (K : Nat) (t0 : Option Addr) (w1 : Sl) (w : World) : Option ((Sl × Unit) × World) :=
  bnd (mkS prog 34 (.int .i64 ((w1.len : Nat) : Int)) (.int .i64 ((w1.len : Nat) : Int)) w) fun s_1 w_2 =>
  bnd (rijndael_tables_inverted_l0 K K t0 w1 ((w1.len : Nat) : Int) s_1 0 w_2) fun y_29 w_30 =>
  some ((s_1, ()), w_30)
theorem rijndael_tables_inverted_s2_ok (K : Nat) : StmtNOk prog [(5, .int .i64), (7, .int .i64)] [(38, .bool)] [(31, 39)] (fun x w => rijndael_tables_inverted_s2 K x.1 x.2.1 w) (cd (bodyOf f41) [1, 1, 1, 0, 1, 0, 0, 1, 0, 0, 1, 0, 0, 1, 1, 0, 0, 1, 1, 0, 0]) :=
    mk_stmtN (O := tabL []) (root := (bodyOf f41)) (π := [1, 1, 1, 0, 1, 0, 0, 1, 0, 0, 1, 0, 0, 1, 1, 0, 0, 1, 1, 0, 0]) (Li := [(5, .int .i64), (7, .int .i64)]) (Lo := [(38, .bool)]) (S := (fun x w => rijndael_tables_inverted_s2 K x.1 x.2.1 w)) (rijndael_tables_inverted_Eok K) (rijndael_tables_inverted_Rok K) rfl (Orc.nil _ _ _) (by kernel_rfl) (fun _ _ => by kernel_rfl)
noncomputable def rijndael_tables_inverted_s2_se (K : Nat) : SE := stmtN [(5, .int .i64), (7, .int .i64)] [(38, .bool)] [(31, 39)] (fun x w => rijndael_tables_inverted_s2 K x.1 x.2.1 w)
theorem rijndael_tables_inverted_s2_se_ok (K : Nat) (R : Rg) (h : subRB [(31, 39)] R = true) : (rijndael_tables_inverted_s2_se K).Ok prog R (cd (bodyOf f41) [1, 1, 1, 0, 1, 0, 0, 1, 0, 0, 1, 0, 0, 1, 1, 0, 0, 1, 1, 0, 0]) := stmtN_ok (Li := [(5, .int .i64), (7, .int .i64)]) (Lo := [(38, .bool)]) (S := (fun x w => rijndael_tables_inverted_s2 K x.1 x.2.1 w)) (rijndael_tables_inverted_s2_ok K) (subR_of h)
theorem rijndael_tables_inverted_s3_ok (K : Nat) : StmtNOk prog [(0, .ptr), (9, .int .u32), (38, .bool)] [(9, .int .u32)] [(9, 10), (39, 96)] (fun x w => rijndael_tables_inverted_s3 K x.1 x.2.1 x.2.2.1 w) (cd (bodyOf f41) [1, 1, 1, 0, 1, 0, 0, 1, 0, 0, 1, 0, 0, 1, 1, 0, 0, 1, 1, 0, 1]) :=
    mk_stmtN (O := tabL []) (root := (bodyOf f41)) (π := [1, 1, 1, 0, 1, 0, 0, 1, 0, 0, 1, 0, 0, 1, 1, 0, 0, 1, 1, 0, 1]) (Li := [(0, .ptr), (9, .int .u32), (38, .bool)]) (Lo := [(9, .int .u32)]) (S := (fun x w => rijndael_tables_inverted_s3 K x.1 x.2.1 x.2.2.1 w)) (rijndael_tables_inverted_Eok K) (rijndael_tables_inverted_Rok K) rfl (Orc.nil _ _ _) (by kernel_rfl) (fun _ _ => by kernel_rfl)
noncomputable def rijndael_tables_inverted_s3_se (K : Nat) : SE := stmtN [(0, .ptr), (9, .int .u32), (38, .bool)] [(9, .int .u32)] [(9, 10), (39, 96)] (fun x w => rijndael_tables_inverted_s3 K x.1 x.2.1 x.2.2.1 w)
theorem rijndael_tables_inverted_s3_se_ok (K : Nat) (R : Rg) (h : subRB [(9, 10), (39, 96)] R = true) : (rijndael_tables_inverted_s3_se K).Ok prog R (cd (bodyOf f41) [1, 1, 1, 0, 1, 0, 0, 1, 0, 0, 1, 0, 0, 1, 1, 0, 0, 1, 1, 0, 1]) := stmtN_ok (Li := [(0, .ptr), (9, .int .u32), (38, .bool)]) (Lo := [(9, .int .u32)]) (S := (fun x w => rijndael_tables_inverted_s3 K x.1 x.2.1 x.2.2.1 w)) (rijndael_tables_inverted_s3_ok K) (subR_of h)
theorem rijndael_tables_inverted_l1_ok (K : Nat) (n : Nat) : StmtNOk prog [(0, .ptr), (1, .sl), (5, .int .i64), (6, .sl), (7, .int .i64), (19, .int .i64)] [] [(8, 10), (19, 103)] ((fun n x w => rijndael_tables_inverted_l1 K n x.1 x.2.1 x.2.2.1 x.2.2.2.1 x.2.2.2.2.1 x.2.2.2.2.2.1 w) n) (.block 2 (.loop (cd (bodyOf f41) [1, 1, 1, 0, 1, 0, 0, 1, 0, 0, 1, 0, 0]))) :=
    mk_loopN (O := tabL [([1, 1, 1, 0, 1, 0, 0, 1, 0, 0, 1, 0, 0, 1, 1, 0, 0, 1, 1, 0, 0], rijndael_tables_inverted_s2_se K), ([1, 1, 1, 0, 1, 0, 0, 1, 0, 0, 1, 0, 0, 1, 1, 0, 0, 1, 1, 0, 1], rijndael_tables_inverted_s3_se K)]) (root := (bodyOf f41)) (π := [1, 1, 1, 0, 1, 0, 0, 1, 0, 0, 1, 0, 0]) (id := 2) (Li := [(0, .ptr), (1, .sl), (5, .int .i64), (6, .sl), (7, .int .i64), (19, .int .i64)]) (Lo := []) (S := (fun n x w => rijndael_tables_inverted_l1 K n x.1 x.2.1 x.2.2.1 x.2.2.2.1 x.2.2.2.2.1 x.2.2.2.2.2.1 w)) (body := cd (bodyOf f41) [1, 1, 1, 0, 1, 0, 0, 1, 0, 0, 1, 0, 0]) (rijndael_tables_inverted_Eok K) (rijndael_tables_inverted_Rok K) rfl (Orc.cons (by kernel_rfl) (rijndael_tables_inverted_s2_se_ok K [(8, 10), (19, 103)] (by kernel_rfl)) (Orc.cons (by kernel_rfl) (rijndael_tables_inverted_s3_se_ok K [(8, 10), (19, 103)] (by kernel_rfl)) (Orc.nil _ _ _))) (by kernel_rfl) (fun _ _ => by kernel_rfl) (fun _ _ _ => by kernel_rfl) n
noncomputable def rijndael_tables_inverted_l1_se (K : Nat) : SE := stmtN [(0, .ptr), (1, .sl), (5, .int .i64), (6, .sl), (7, .int .i64), (19, .int .i64)] [] [(8, 10), (19, 103)] (fun x w => rijndael_tables_inverted_l1 K K x.1 x.2.1 x.2.2.1 x.2.2.2.1 x.2.2.2.2.1 x.2.2.2.2.2.1 w)
theorem rijndael_tables_inverted_l1_se_ok (K : Nat) (R : Rg) (h : subRB [(8, 10), (19, 103)] R = true) : (rijndael_tables_inverted_l1_se K).Ok prog R (.block 2 (.loop (cd (bodyOf f41) [1, 1, 1, 0, 1, 0, 0, 1, 0, 0, 1, 0, 0]))) := stmtN_ok (Li := [(0, .ptr), (1, .sl), (5, .int .i64), (6, .sl), (7, .int .i64), (19, .int .i64)]) (Lo := []) (S := (fun x w => rijndael_tables_inverted_l1 K K x.1 x.2.1 x.2.2.1 x.2.2.2.1 x.2.2.2.2.1 x.2.2.2.2.2.1 w)) (rijndael_tables_inverted_l1_ok K K) (subR_of h)
theorem rijndael_tables_inverted_l0_ok (K : Nat) (n : Nat) : StmtNOk prog [(0, .ptr), (1, .sl), (5, .int .i64), (6, .sl), (7, .int .i64)] [] [(7, 10), (14, 103)] ((fun n x w => rijndael_tables_inverted_l0 K n x.1 x.2.1 x.2.2.1 x.2.2.2.1 x.2.2.2.2.1 w) n) (.block 0 (.loop (cd (bodyOf f41) [1, 1, 1, 0, 1, 0, 0]))) :=
    mk_loopN (O := tabL [([1, 1, 1, 0, 1, 0, 0, 1, 0, 0, 1], rijndael_tables_inverted_l1_se K), ([1, 1, 1, 0, 1, 0, 0, 1, 0, 0, 1, 0, 0, 1, 1, 0, 0, 1, 1, 0, 0], rijndael_tables_inverted_s2_se K), ([1, 1, 1, 0, 1, 0, 0, 1, 0, 0, 1, 0, 0, 1, 1, 0, 0, 1, 1, 0, 1], rijndael_tables_inverted_s3_se K)]) (root := (bodyOf f41)) (π := [1, 1, 1, 0, 1, 0, 0]) (id := 0) (Li := [(0, .ptr), (1, .sl), (5, .int .i64), (6, .sl), (7, .int .i64)]) (Lo := []) (S := (fun n x w => rijndael_tables_inverted_l0 K n x.1 x.2.1 x.2.2.1 x.2.2.2.1 x.2.2.2.2.1 w)) (body := cd (bodyOf f41) [1, 1, 1, 0, 1, 0, 0]) (rijndael_tables_inverted_Eok K) (rijndael_tables_inverted_Rok K) rfl (Orc.cons (by kernel_rfl) (rijndael_tables_inverted_l1_se_ok K [(7, 10), (14, 103)] (by kernel_rfl)) (Orc.cons (by kernel_rfl) (rijndael_tables_inverted_s2_se_ok K [(7, 10), (14, 103)] (by kernel_rfl)) (Orc.cons (by kernel_rfl) (rijndael_tables_inverted_s3_se_ok K [(7, 10), (14, 103)] (by kernel_rfl)) (Orc.nil _ _ _)))) (by kernel_rfl) (fun _ _ => by kernel_rfl) (fun _ _ _ => by kernel_rfl) n
noncomputable def rijndael_tables_inverted_l0_se (K : Nat) : SE := stmtN [(0, .ptr), (1, .sl), (5, .int .i64), (6, .sl), (7, .int .i64)] [] [(7, 10), (14, 103)] (fun x w => rijndael_tables_inverted_l0 K K x.1 x.2.1 x.2.2.1 x.2.2.2.1 x.2.2.2.2.1 w)
theorem rijndael_tables_inverted_l0_se_ok (K : Nat) (R : Rg) (h : subRB [(7, 10), (14, 103)] R = true) : (rijndael_tables_inverted_l0_se K).Ok prog R (.block 0 (.loop (cd (bodyOf f41) [1, 1, 1, 0, 1, 0, 0]))) := stmtN_ok (Li := [(0, .ptr), (1, .sl), (5, .int .i64), (6, .sl), (7, .int .i64)]) (Lo := []) (S := (fun x w => rijndael_tables_inverted_l0 K K x.1 x.2.1 x.2.2.1 x.2.2.2.1 x.2.2.2.2.1 w)) (rijndael_tables_inverted_l0_ok K K) (subR_of h)
theorem rijndael_tables_inverted_facts : FunFacts prog 41 f41 (bodyOf f41) [(0, .ptr), (1, .sl)] [(0, 104)] := ⟨func41, by kernel_rfl, by kernel_rfl, by kernel_rfl, by kernel_rfl, by kernel_rfl⟩
theorem rijndael_tables_inverted_calls (K : Nat) (x : TT [(0, .ptr), (1, .sl)]) (w : World) (y : TR [.sl]) (w2 : World) (h : rijndael_tables_inverted K x.1 x.2.1 w = some (y, w2)) : Calls prog 41 (encA [(0, .ptr), (1, .sl)] x).toArray w (fun e w3 => e = .returned (resV (encR [.sl] y)) ∧ w3 = w2) :=
    mk_fun (O := tabL [([1, 1, 1, 0, 1], rijndael_tables_inverted_l0_se K), ([1, 1, 1, 0, 1, 0, 0, 1, 0, 0, 1], rijndael_tables_inverted_l1_se K), ([1, 1, 1, 0, 1, 0, 0, 1, 0, 0, 1, 0, 0, 1, 1, 0, 0, 1, 1, 0, 0], rijndael_tables_inverted_s2_se K), ([1, 1, 1, 0, 1, 0, 0, 1, 0, 0, 1, 0, 0, 1, 1, 0, 0, 1, 1, 0, 1], rijndael_tables_inverted_s3_se K)]) (Lp := [(0, .ptr), (1, .sl)]) (Rt := [.sl]) (S := (fun x w => rijndael_tables_inverted K x.1 x.2.1 w)) (rijndael_tables_inverted_Eok K) (rijndael_tables_inverted_Rok K) rfl rijndael_tables_inverted_facts (Orc.cons (by kernel_rfl) (rijndael_tables_inverted_l0_se_ok K [(0, 104)] (by kernel_rfl)) (Orc.cons (by kernel_rfl) (rijndael_tables_inverted_l1_se_ok K [(0, 104)] (by kernel_rfl)) (Orc.cons (by kernel_rfl) (rijndael_tables_inverted_s2_se_ok K [(0, 104)] (by kernel_rfl)) (Orc.cons (by kernel_rfl) (rijndael_tables_inverted_s3_se_ok K [(0, 104)] (by kernel_rfl)) (Orc.nil _ _ _))))) (fun _ _ => by kernel_rfl) x w y w2 h
noncomputable def rijndael_tables_inverted_ce (K : Nat) : CE := funE [(0, .ptr), (1, .sl)] [.sl] (fun x w => rijndael_tables_inverted K x.1 x.2.1 w)
theorem rijndael_tables_inverted_ok (K : Nat) : (rijndael_tables_inverted_ce K).Ok prog 41 := funE_ok (Rt := [.sl]) (S := (fun x w => rijndael_tables_inverted K x.1 x.2.1 w)) rijndael_tables_inverted_facts fun x w y w2 h => rijndael_tables_inverted_calls K x w y w2 h

end Go.Sh

/- What functions of the program do, as Lean functions; that the machine does just that. Printed by shal.py, a program of this claim's writer. -/
set_option maxRecDepth 100000
set_option linter.unusedVariables false
namespace Go.Sh
open Go.Fw Go.Proofs.Tryd

noncomputable def rijndael_New_E (K : Nat) : List (Nat × CE) := [(38, rijndael_made_ce K), (40, rijndael_tables_word_ce), (41, rijndael_tables_inverted_ce K)]
theorem rijndael_New_Eok (K : Nat) : Env.Ok prog (tab (rijndael_New_E K)) := (Env.cons (rijndael_made_ok K) (Env.cons (rijndael_tables_word_ok) (Env.cons (rijndael_tables_inverted_ok K) (Env.nil _))))
noncomputable def rijndael_New_R (K : Nat) : List (Nat × RE) := [(39, rijndael_number_re K)]
theorem rijndael_New_Rok (K : Nat) : REnv.Ok prog (tab (rijndael_New_R K)) := (REnv.cons (rijndael_number_ok K) (REnv.nil _))
noncomputable def rijndael_New_s0 (K : Nat) (a14 : Int) (w : World) : Option ((Out (Unit) ((Option Addr) × Int × Unit)) × World) :=
  if (a14 == 16) = true then (some (.norm (), w)) else (if (a14 == 24) = true then (some (.norm (), w)) else (if (a14 == 32) = true then (some (.norm (), w)) else (some (.ret (none, 20, ()), w))))
noncomputable def rijndael_New_l1_b (K : Nat) (rec : Sl → Int → Option Addr → Sl → Int → Int → World → Option ((Unit) × World)) (key0 : Sl) (nk4 : Int) (tab5 : Option Addr) (w6 : Sl) (a24 : Int) (a25 : Int) (w : World) : Option ((Unit) × World) :=
  if (decide (a25 < a24)) = true then (if (0 : Int) ≤ (IntKind.i64.wrap (4 * a25)) ∧ (IntKind.i64.wrap (4 * a25)) ≤ ((key0.len : Nat) : Int) then ((rijndael_number K ⟨(sla key0.a (Int.toNat ((IntKind.i64.wrap (4 * a25)))) key0.cap 1), (key0.len - (Int.toNat ((IntKind.i64.wrap (4 * a25))))), (key0.cap - (Int.toNat ((IntKind.i64.wrap (4 * a25)))))⟩ 4 w).bind fun r_8 =>
  (w6.a).bind fun p_9 =>
  if (0 : Int) ≤ a25 ∧ a25 < ((w6.len : Nat) : Int) then ((stC (p_9.add ((Int.toNat a25) * 1)) (.int .u32 (IntKind.u32.wrap r_8.1)) w).bind fun w_10 =>
  rec key0 nk4 tab5 w6 a24 (IntKind.i64.wrap (a25 + 1)) w_10) else none) else none) else (some ((), w))
noncomputable def rijndael_New_l1 (K : Nat) (n : Nat) : Sl → Int → Option Addr → Sl → Int → Int → World → Option ((Unit) × World) := iter (fun _ _ _ _ _ _ _ => none) (rijndael_New_l1_b K) n
noncomputable def rijndael_New_s4 (K : Nat) (nk4 : Int) (tab5 : Option Addr) (i8 : Int) (t9 : Int) (w : World) : Option ((Int × Unit) × World) :=
  if nk4 ≠ 0 then (if (0 : Int) ≤ (IntKind.i64.wrap ((IntKind.i64.wrap (Int.tdiv i8 nk4)) - 1)) ∧ (IntKind.i64.wrap ((IntKind.i64.wrap (Int.tdiv i8 nk4)) - 1)) < ((10 : Nat) : Int) then ((ldI .u8 ((⟨0, 0, none⟩ : Addr).add ((Int.toNat (IntKind.i64.wrap ((IntKind.i64.wrap (Int.tdiv i8 nk4)) - 1))) * 1)) w.drew).bind fun v_15 =>
  bnd (rijndael_tables_word tab5 t9 w.drew) fun r_16 w_17 =>
  (ldI .u8 ((⟨0, 0, none⟩ : Addr).add ((Int.toNat (IntKind.i64.wrap ((IntKind.i64.wrap (Int.tdiv i8 nk4)) - 1))) * 1)) w_17).bind fun v_18 =>
  sameK (.int .u8 v_15) (.int .u8 v_18) (some (((bits .xor .u32 r_16.1 (IntKind.u32.wrap ((IntKind.u32.wrap v_15) * 2 ^ 24))), ()), w_17))) else none) else none
noncomputable def rijndael_New_s3 (K : Nat) (nk4 : Int) (tab5 : Option Addr) (i8 : Int) (t9 : Int) (a52 : Int) (w : World) : Option ((Int × Unit) × World) :=
  if (a52 == 0) = true then (bnd (rijndael_New_s4 K nk4 tab5 i8 (bits .or .u32 (IntKind.u32.wrap (t9 * 2 ^ 8)) (Int.fdiv t9 (2 ^ 24))) w) fun y_19 w_20 =>
  some ((y_19.1, ()), w_20)) else (if (a52 == 4) = true then (if (nk4 != 8) = true then (some ((t9, ()), w)) else (bnd (rijndael_tables_word tab5 t9 w) fun r_21 w_22 =>
  some ((r_21.1, ()), w_22))) else (some ((t9, ()), w)))
noncomputable def rijndael_New_l2_b (K : Nat) (rec : Sl → Int → Option Addr → Sl → Int → World → Option ((Unit) × World)) (key0 : Sl) (nk4 : Int) (tab5 : Option Addr) (w6 : Sl) (i8 : Int) (w : World) : Option ((Unit) × World) :=
  if (decide (i8 < ((w6.len : Nat) : Int))) = true then ((w6.a).bind fun p_13 =>
  if (0 : Int) ≤ (IntKind.i64.wrap (i8 - 1)) ∧ (IntKind.i64.wrap (i8 - 1)) < ((w6.len : Nat) : Int) then ((ldI .u32 (p_13.add ((Int.toNat (IntKind.i64.wrap (i8 - 1))) * 1)) w).bind fun v_14 =>
  if nk4 ≠ 0 then (bnd (rijndael_New_s3 K nk4 tab5 i8 v_14 (Int.tmod i8 nk4) w) fun y_23 w_24 =>
  (w6.a).bind fun p_25 =>
  if (0 : Int) ≤ (IntKind.i64.wrap (i8 - nk4)) ∧ (IntKind.i64.wrap (i8 - nk4)) < ((w6.len : Nat) : Int) then ((ldI .u32 (p_25.add ((Int.toNat (IntKind.i64.wrap (i8 - nk4))) * 1)) w_24).bind fun v_26 =>
  (w6.a).bind fun p_27 =>
  if (0 : Int) ≤ i8 ∧ i8 < ((w6.len : Nat) : Int) then ((stC (p_27.add ((Int.toNat i8) * 1)) (.int .u32 (bits .xor .u32 v_26 y_23.1)) w_24).bind fun w_28 =>
  rec key0 nk4 tab5 w6 (IntKind.i64.wrap (i8 + 1)) w_28) else none) else none) else none) else none) else (some ((), w))
noncomputable def rijndael_New_l2 (K : Nat) (n : Nat) : Sl → Int → Option Addr → Sl → Int → World → Option ((Unit) × World) := iter (fun _ _ _ _ _ _ => none) (rijndael_New_l2_b K) n
/-- coffer/rijndael.New -/
noncomputable def rijndael_New (K : Nat) (key0 : Sl) (w : World) : Option (((Option Addr) × Int × Unit) × World) :=
  bnd (rijndael_New_s0 K ((key0.len : Nat) : Int) w) fun y_1 w_2 =>
  (match y_1 with
  | .norm z_3n => (bnd (rijndael_made K  w_2) fun r_4 w_5 =>
  bnd (mkS prog 34 (.int .i64 (IntKind.i64.wrap (4 * (IntKind.i64.wrap ((IntKind.i64.wrap (Int.tdiv ((key0.len : Nat) : Int) 4)) + 7))))) (.int .i64 (IntKind.i64.wrap (4 * (IntKind.i64.wrap ((IntKind.i64.wrap (Int.tdiv ((key0.len : Nat) : Int) 4)) + 7))))) w_5) fun s_6 w_7 =>
  bnd (rijndael_New_l1 K K key0 (IntKind.i64.wrap (Int.tdiv ((key0.len : Nat) : Int) 4)) r_4.1 s_6 (IntKind.i64.wrap (Int.tdiv ((key0.len : Nat) : Int) 4)) 0 w_7) fun y_11 w_12 =>
  bnd (rijndael_New_l2 K K key0 (IntKind.i64.wrap (Int.tdiv ((key0.len : Nat) : Int) 4)) r_4.1 s_6 (IntKind.i64.wrap (Int.tdiv ((key0.len : Nat) : Int) 4)) w_12) fun y_29 w_30 =>
  bnd (rijndael_tables_inverted K r_4.1 s_6 w_30) fun r_31 w_32 =>
  (prog.built 92 [(1, (.int .i64 ((key0.len : Nat) : Int))), (2, (.pointer r_4.1)), (3, (.slice s_6.a s_6.len s_6.cap)), (4, (.slice r_31.1.a r_31.1.len r_31.1.cap))]).bind fun cs_33 =>
  bnd (newB cs_33 92 w_32) fun p_34 w_35 =>
  some (((some p_34), 0, ()), w_35))
  | .ret z_3r => (some ((z_3r.1, z_3r.2.1, ()), w_2)))
theorem rijndael_New_s0_ok (K : Nat) : StmtOk prog [(14, .int .i64)] [] [(2, .ptr), (3, .int .i64)] [(2, 4), (15, 19)] (fun x w => rijndael_New_s0 K x.1 w) (cd (bodyOf f10) [1, 1, 0, 1]) :=
    mk_stmt (O := tabL []) (root := (bodyOf f10)) (π := [1, 1, 0, 1]) (Li := [(14, .int .i64)]) (Lo := []) (Lr := [(2, .ptr), (3, .int .i64)]) (S := (fun x w => rijndael_New_s0 K x.1 w)) (rijndael_New_Eok K) (rijndael_New_Rok K) rfl (Orc.nil _ _ _) (by kernel_rfl) (fun _ _ => by kernel_rfl)
noncomputable def rijndael_New_s0_se (K : Nat) : SE := stmt [(14, .int .i64)] [] [(2, .ptr), (3, .int .i64)] [(2, 4), (15, 19)] (fun x w => rijndael_New_s0 K x.1 w)
theorem rijndael_New_s0_se_ok (K : Nat) (R : Rg) (h : subRB [(2, 4), (15, 19)] R = true) : (rijndael_New_s0_se K).Ok prog R (cd (bodyOf f10) [1, 1, 0, 1]) := stmt_ok (Li := [(14, .int .i64)]) (Lo := []) (Lr := [(2, .ptr), (3, .int .i64)]) (S := (fun x w => rijndael_New_s0 K x.1 w)) (rijndael_New_s0_ok K) (subR_of h)
theorem rijndael_New_l1_ok (K : Nat) (n : Nat) : StmtNOk prog [(0, .sl), (4, .int .i64), (5, .ptr), (6, .sl), (24, .int .i64), (25, .int .i64)] [] [(7, 8), (25, 38)] ((fun n x w => rijndael_New_l1 K n x.1 x.2.1 x.2.2.1 x.2.2.2.1 x.2.2.2.2.1 x.2.2.2.2.2.1 w) n) (.block 1 (.loop (cd (bodyOf f10) [1, 1, 1, 1, 1, 0, 1, 0, 0]))) :=
    mk_loopN (O := tabL []) (root := (bodyOf f10)) (π := [1, 1, 1, 1, 1, 0, 1, 0, 0]) (id := 1) (Li := [(0, .sl), (4, .int .i64), (5, .ptr), (6, .sl), (24, .int .i64), (25, .int .i64)]) (Lo := []) (S := (fun n x w => rijndael_New_l1 K n x.1 x.2.1 x.2.2.1 x.2.2.2.1 x.2.2.2.2.1 x.2.2.2.2.2.1 w)) (body := cd (bodyOf f10) [1, 1, 1, 1, 1, 0, 1, 0, 0]) (rijndael_New_Eok K) (rijndael_New_Rok K) rfl (Orc.nil _ _ _) (by kernel_rfl) (fun _ _ => by kernel_rfl) (fun _ _ _ => by kernel_rfl) n
noncomputable def rijndael_New_l1_se (K : Nat) : SE := stmtN [(0, .sl), (4, .int .i64), (5, .ptr), (6, .sl), (24, .int .i64), (25, .int .i64)] [] [(7, 8), (25, 38)] (fun x w => rijndael_New_l1 K K x.1 x.2.1 x.2.2.1 x.2.2.2.1 x.2.2.2.2.1 x.2.2.2.2.2.1 w)
theorem rijndael_New_l1_se_ok (K : Nat) (R : Rg) (h : subRB [(7, 8), (25, 38)] R = true) : (rijndael_New_l1_se K).Ok prog R (.block 1 (.loop (cd (bodyOf f10) [1, 1, 1, 1, 1, 0, 1, 0, 0]))) := stmtN_ok (Li := [(0, .sl), (4, .int .i64), (5, .ptr), (6, .sl), (24, .int .i64), (25, .int .i64)]) (Lo := []) (S := (fun x w => rijndael_New_l1 K K x.1 x.2.1 x.2.2.1 x.2.2.2.1 x.2.2.2.2.1 x.2.2.2.2.2.1 w)) (rijndael_New_l1_ok K K) (subR_of h)
theorem rijndael_New_s4_ok (K : Nat) : StmtNOk prog [(4, .int .i64), (5, .ptr), (8, .int .i64), (9, .int .u32)] [(9, .int .u32)] [(9, 10), (60, 72)] (fun x w => rijndael_New_s4 K x.1 x.2.1 x.2.2.1 x.2.2.2.1 w) (cd (bodyOf f10) [1, 1, 1, 1, 1, 1, 0, 1, 0, 0, 1, 0, 0, 1, 0, 1, 0, 1, 0, 1]) :=
    mk_regionH (R := [(9, 10), (60, 72)]) (Li := [(4, .int .i64), (5, .ptr), (8, .int .i64), (9, .int .u32)]) (Lo := [(9, .int .u32)]) (S := (fun x w => rijndael_New_s4 K x.1 x.2.1 x.2.2.1 x.2.2.2.1 w)) (rijndael_New_Eok K) (rijndael_New_Rok K) rfl (fun _ _ => by kernel_rfl)
noncomputable def rijndael_New_s4_se (K : Nat) : SE := stmtN [(4, .int .i64), (5, .ptr), (8, .int .i64), (9, .int .u32)] [(9, .int .u32)] [(9, 10), (60, 72)] (fun x w => rijndael_New_s4 K x.1 x.2.1 x.2.2.1 x.2.2.2.1 w)
theorem rijndael_New_s4_se_ok (K : Nat) (R : Rg) (h : subRB [(9, 10), (60, 72)] R = true) : (rijndael_New_s4_se K).Ok prog R (cd (bodyOf f10) [1, 1, 1, 1, 1, 1, 0, 1, 0, 0, 1, 0, 0, 1, 0, 1, 0, 1, 0, 1]) := stmtN_ok (Li := [(4, .int .i64), (5, .ptr), (8, .int .i64), (9, .int .u32)]) (Lo := [(9, .int .u32)]) (S := (fun x w => rijndael_New_s4 K x.1 x.2.1 x.2.2.1 x.2.2.2.1 w)) (rijndael_New_s4_ok K) (subR_of h)
theorem rijndael_New_s3_ok (K : Nat) : StmtNOk prog [(4, .int .i64), (5, .ptr), (8, .int .i64), (9, .int .u32), (52, .int .i64)] [(9, .int .u32)] [(9, 10), (53, 79)] (fun x w => rijndael_New_s3 K x.1 x.2.1 x.2.2.1 x.2.2.2.1 x.2.2.2.2.1 w) (cd (bodyOf f10) [1, 1, 1, 1, 1, 1, 0, 1, 0, 0, 1, 0, 0, 1, 0, 1]) :=
    mk_stmtN (O := tabL [([1, 1, 1, 1, 1, 1, 0, 1, 0, 0, 1, 0, 0, 1, 0, 1, 0, 1, 0, 1], rijndael_New_s4_se K)]) (root := (bodyOf f10)) (π := [1, 1, 1, 1, 1, 1, 0, 1, 0, 0, 1, 0, 0, 1, 0, 1]) (Li := [(4, .int .i64), (5, .ptr), (8, .int .i64), (9, .int .u32), (52, .int .i64)]) (Lo := [(9, .int .u32)]) (S := (fun x w => rijndael_New_s3 K x.1 x.2.1 x.2.2.1 x.2.2.2.1 x.2.2.2.2.1 w)) (rijndael_New_Eok K) (rijndael_New_Rok K) rfl (Orc.cons (by kernel_rfl) (rijndael_New_s4_se_ok K [(9, 10), (53, 79)] (by kernel_rfl)) (Orc.nil _ _ _)) (by kernel_rfl) (fun _ _ => by kernel_rfl)
noncomputable def rijndael_New_s3_se (K : Nat) : SE := stmtN [(4, .int .i64), (5, .ptr), (8, .int .i64), (9, .int .u32), (52, .int .i64)] [(9, .int .u32)] [(9, 10), (53, 79)] (fun x w => rijndael_New_s3 K x.1 x.2.1 x.2.2.1 x.2.2.2.1 x.2.2.2.2.1 w)
theorem rijndael_New_s3_se_ok (K : Nat) (R : Rg) (h : subRB [(9, 10), (53, 79)] R = true) : (rijndael_New_s3_se K).Ok prog R (cd (bodyOf f10) [1, 1, 1, 1, 1, 1, 0, 1, 0, 0, 1, 0, 0, 1, 0, 1]) := stmtN_ok (Li := [(4, .int .i64), (5, .ptr), (8, .int .i64), (9, .int .u32), (52, .int .i64)]) (Lo := [(9, .int .u32)]) (S := (fun x w => rijndael_New_s3 K x.1 x.2.1 x.2.2.1 x.2.2.2.1 x.2.2.2.2.1 w)) (rijndael_New_s3_ok K) (subR_of h)
theorem rijndael_New_l2_ok (K : Nat) (n : Nat) : StmtNOk prog [(0, .sl), (4, .int .i64), (5, .ptr), (6, .sl), (8, .int .i64)] [] [(8, 10), (39, 90)] ((fun n x w => rijndael_New_l2 K n x.1 x.2.1 x.2.2.1 x.2.2.2.1 x.2.2.2.2.1 w) n) (.block 3 (.loop (cd (bodyOf f10) [1, 1, 1, 1, 1, 1, 0, 1, 0, 0]))) :=
    mk_loopN (O := tabL [([1, 1, 1, 1, 1, 1, 0, 1, 0, 0, 1, 0, 0, 1, 0, 1], rijndael_New_s3_se K), ([1, 1, 1, 1, 1, 1, 0, 1, 0, 0, 1, 0, 0, 1, 0, 1, 0, 1, 0, 1], rijndael_New_s4_se K)]) (root := (bodyOf f10)) (π := [1, 1, 1, 1, 1, 1, 0, 1, 0, 0]) (id := 3) (Li := [(0, .sl), (4, .int .i64), (5, .ptr), (6, .sl), (8, .int .i64)]) (Lo := []) (S := (fun n x w => rijndael_New_l2 K n x.1 x.2.1 x.2.2.1 x.2.2.2.1 x.2.2.2.2.1 w)) (body := cd (bodyOf f10) [1, 1, 1, 1, 1, 1, 0, 1, 0, 0]) (rijndael_New_Eok K) (rijndael_New_Rok K) rfl (Orc.cons (by kernel_rfl) (rijndael_New_s3_se_ok K [(8, 10), (39, 90)] (by kernel_rfl)) (Orc.cons (by kernel_rfl) (rijndael_New_s4_se_ok K [(8, 10), (39, 90)] (by kernel_rfl)) (Orc.nil _ _ _))) (by kernel_rfl) (fun _ _ => by kernel_rfl) (fun _ _ _ => by kernel_rfl) n
noncomputable def rijndael_New_l2_se (K : Nat) : SE := stmtN [(0, .sl), (4, .int .i64), (5, .ptr), (6, .sl), (8, .int .i64)] [] [(8, 10), (39, 90)] (fun x w => rijndael_New_l2 K K x.1 x.2.1 x.2.2.1 x.2.2.2.1 x.2.2.2.2.1 w)
theorem rijndael_New_l2_se_ok (K : Nat) (R : Rg) (h : subRB [(8, 10), (39, 90)] R = true) : (rijndael_New_l2_se K).Ok prog R (.block 3 (.loop (cd (bodyOf f10) [1, 1, 1, 1, 1, 1, 0, 1, 0, 0]))) := stmtN_ok (Li := [(0, .sl), (4, .int .i64), (5, .ptr), (6, .sl), (8, .int .i64)]) (Lo := []) (S := (fun x w => rijndael_New_l2 K K x.1 x.2.1 x.2.2.1 x.2.2.2.1 x.2.2.2.2.1 w)) (rijndael_New_l2_ok K K) (subR_of h)
theorem rijndael_New_facts : FunFacts prog 10 f10 (bodyOf f10) [(0, .sl)] [(0, 99)] := ⟨func10, by kernel_rfl, by kernel_rfl, by kernel_rfl, by kernel_rfl, by kernel_rfl⟩
theorem rijndael_New_calls (K : Nat) (x : TT [(0, .sl)]) (w : World) (y : TR [.ptr, .int .i64]) (w2 : World) (h : rijndael_New K x.1 w = some (y, w2)) : Calls prog 10 (encA [(0, .sl)] x).toArray w (fun e w3 => e = .returned (resV (encR [.ptr, .int .i64] y)) ∧ w3 = w2) :=
    mk_fun (O := tabL [([1, 1, 0, 1], rijndael_New_s0_se K), ([1, 1, 1, 1, 1, 0, 1], rijndael_New_l1_se K), ([1, 1, 1, 1, 1, 1, 0, 1], rijndael_New_l2_se K), ([1, 1, 1, 1, 1, 1, 0, 1, 0, 0, 1, 0, 0, 1, 0, 1], rijndael_New_s3_se K), ([1, 1, 1, 1, 1, 1, 0, 1, 0, 0, 1, 0, 0, 1, 0, 1, 0, 1, 0, 1], rijndael_New_s4_se K)]) (Lp := [(0, .sl)]) (Rt := [.ptr, .int .i64]) (S := (fun x w => rijndael_New K x.1 w)) (rijndael_New_Eok K) (rijndael_New_Rok K) rfl rijndael_New_facts (Orc.cons (by kernel_rfl) (rijndael_New_s0_se_ok K [(0, 99)] (by kernel_rfl)) (Orc.cons (by kernel_rfl) (rijndael_New_l1_se_ok K [(0, 99)] (by kernel_rfl)) (Orc.cons (by kernel_rfl) (rijndael_New_l2_se_ok K [(0, 99)] (by kernel_rfl)) (Orc.cons (by kernel_rfl) (rijndael_New_s3_se_ok K [(0, 99)] (by kernel_rfl)) (Orc.cons (by kernel_rfl) (rijndael_New_s4_se_ok K [(0, 99)] (by kernel_rfl)) (Orc.nil _ _ _)))))) (fun _ _ => by kernel_rfl) x w y w2 h
noncomputable def rijndael_New_ce (K : Nat) : CE := funE [(0, .sl)] [.ptr, .int .i64] (fun x w => rijndael_New K x.1 w)
theorem rijndael_New_ok (K : Nat) : (rijndael_New_ce K).Ok prog 10 := funE_ok (Rt := [.ptr, .int .i64]) (S := (fun x w => rijndael_New K x.1 w)) rijndael_New_facts fun x w y w2 h => rijndael_New_calls K x w y w2 h

noncomputable def ref02_bits_R (K : Nat) : List (Nat × RE) := []
theorem ref02_bits_Rok (K : Nat) : REnv.Ok prog (tab (ref02_bits_R K)) := (REnv.nil _)
noncomputable def ref02_bits_l0_b (K : Nat) (rec : Int → Int → Int → Option (Out (Int × Unit) (Int × Unit))) (y0 : Int) (s3 : Int) (i4 : Int) : Option (Out (Int × Unit) (Int × Unit)) :=
  if (decide (i4 < 8)) = true then (if (0 : Int) ≤ (IntKind.u64.wrap i4) then (if (0 : Int) ≤ (IntKind.u64.wrap (Int.tmod (IntKind.i64.wrap (i4 + 4)) 8)) then (if (0 : Int) ≤ (IntKind.u64.wrap (Int.tmod (IntKind.i64.wrap (i4 + 5)) 8)) then (if (0 : Int) ≤ (IntKind.u64.wrap (Int.tmod (IntKind.i64.wrap (i4 + 6)) 8)) then (if (0 : Int) ≤ (IntKind.u64.wrap (Int.tmod (IntKind.i64.wrap (i4 + 7)) 8)) then (if (0 : Int) ≤ (IntKind.u64.wrap i4) then (if (0 : Int) ≤ (IntKind.u64.wrap i4) then (rec y0 (IntKind.i64.wrap (s3 + (IntKind.i64.wrap ((Int.tmod (bits .xor .i64 (bits .xor .i64 (bits .xor .i64 (bits .xor .i64 (bits .xor .i64 (Int.fdiv y0 (2 ^ (min (Int.toNat (IntKind.u64.wrap i4)) IntKind.i64.bits))) (Int.fdiv y0 (2 ^ (min (Int.toNat (IntKind.u64.wrap (Int.tmod (IntKind.i64.wrap (i4 + 4)) 8))) IntKind.i64.bits)))) (Int.fdiv y0 (2 ^ (min (Int.toNat (IntKind.u64.wrap (Int.tmod (IntKind.i64.wrap (i4 + 5)) 8))) IntKind.i64.bits)))) (Int.fdiv y0 (2 ^ (min (Int.toNat (IntKind.u64.wrap (Int.tmod (IntKind.i64.wrap (i4 + 6)) 8))) IntKind.i64.bits)))) (Int.fdiv y0 (2 ^ (min (Int.toNat (IntKind.u64.wrap (Int.tmod (IntKind.i64.wrap (i4 + 7)) 8))) IntKind.i64.bits)))) (Int.fdiv 99 (2 ^ (min (Int.toNat (IntKind.u64.wrap i4)) IntKind.i64.bits)))) 2) * 2 ^ (min (Int.toNat (IntKind.u64.wrap i4)) IntKind.i64.bits))))) (IntKind.i64.wrap (i4 + 1))) else none) else none) else none) else none) else none) else none) else none) else (some (.norm (s3, ())))
noncomputable def ref02_bits_l0 (K : Nat) (n : Nat) : Int → Int → Int → Option (Out (Int × Unit) (Int × Unit)) := iter (fun _ _ _ => none) (ref02_bits_l0_b K) n
/-- coffer/cofferref02.bits -/
noncomputable def ref02_bits (K : Nat) (y0 : Int) : Option (Int × Unit) :=
  (ref02_bits_l0 K K y0 0 0).bind fun y_1 =>
  (match y_1 with
  | .norm z_2n => (some ((IntKind.u8.wrap z_2n.1), ()))
  | .ret z_2r => (some (z_2r.1, ())))
theorem ref02_bits_l0_ok (K : Nat) (n : Nat) : StmtQOk prog [(0, .int .i64), (3, .int .i64), (4, .int .i64)] [(3, .int .i64)] [(2, .int .u8)] [(3, 53)] ((fun n x w => ref02_bits_l0 K n x.1 x.2.1 x.2.2.1) n) (.block 0 (.loop (cd (bodyOf f64) [1, 1, 0, 1, 0, 0]))) :=
    mk_loopQ (O := tabL []) (root := (bodyOf f64)) (π := [1, 1, 0, 1, 0, 0]) (id := 0) (Li := [(0, .int .i64), (3, .int .i64), (4, .int .i64)]) (Lo := [(3, .int .i64)]) (Lr := [(2, .int .u8)]) (S := (fun n x w => ref02_bits_l0 K n x.1 x.2.1 x.2.2.1)) (body := cd (bodyOf f64) [1, 1, 0, 1, 0, 0]) (ref02_bits_Rok K) (OrcQ.nil _ _ _) (by kernel_rfl) (fun _ _ => by kernel_rfl) (fun _ _ _ => by kernel_rfl) n
noncomputable def ref02_bits_l0_se (K : Nat) : SQ := stmtQ [(0, .int .i64), (3, .int .i64), (4, .int .i64)] [(3, .int .i64)] [(2, .int .u8)] [(3, 53)] (fun x w => ref02_bits_l0 K K x.1 x.2.1 x.2.2.1)
theorem ref02_bits_l0_se_ok (K : Nat) (R : Rg) (h : subRB [(3, 53)] R = true) : (ref02_bits_l0_se K).Ok prog R (.block 0 (.loop (cd (bodyOf f64) [1, 1, 0, 1, 0, 0]))) := stmtQ_ok (Li := [(0, .int .i64), (3, .int .i64), (4, .int .i64)]) (Lo := [(3, .int .i64)]) (Lr := [(2, .int .u8)]) (S := (fun x w => ref02_bits_l0 K K x.1 x.2.1 x.2.2.1)) (ref02_bits_l0_ok K K) (subR_of h)
theorem ref02_bits_facts : FunFacts prog 64 f64 (bodyOf f64) [(0, .int .i64)] [(0, 55)] := ⟨func64, by kernel_rfl, by kernel_rfl, by kernel_rfl, by kernel_rfl, by kernel_rfl⟩
theorem ref02_bits_calls (K : Nat) (x : TT [(0, .int .i64)]) (w : World) (y : TR [.int .u8]) (h : ref02_bits K x.1 = some y) : Calls prog 64 (encA [(0, .int .i64)] x).toArray w (fun e w3 => e = .returned (resV (encR [.int .u8] y)) ∧ w3 = w) :=
    mk_funQ (O := tabL [([1, 1, 0, 1], ref02_bits_l0_se K)]) (Lp := [(0, .int .i64)]) (Rt := [.int .u8]) (S := (fun x w => ref02_bits K x.1)) (ref02_bits_Rok K) ref02_bits_facts (OrcQ.cons (by kernel_rfl) (ref02_bits_l0_se_ok K [(0, 55)] (by kernel_rfl)) (OrcQ.nil _ _ _)) (fun _ _ => by kernel_rfl) x w y h
noncomputable def ref02_bits_re (K : Nat) : RE := funR [(0, .int .i64)] [.int .u8] (fun x w => ref02_bits K x.1)
theorem ref02_bits_ok (K : Nat) : (ref02_bits_re K).Ok prog 64 := funR_ok (Rt := [.int .u8]) (S := (fun x w => ref02_bits K x.1)) ref02_bits_facts fun x w y h => ref02_bits_calls K x w y h

noncomputable def ref02_Times_R (K : Nat) : List (Nat × RE) := []
theorem ref02_Times_Rok (K : Nat) : REnv.Ok prog (tab (ref02_Times_R K)) := (REnv.nil _)
noncomputable def ref02_Times_l0_b (K : Nat) (rec : Int → Int → Int → Int → Option (Out (Int × Unit) (Int × Unit))) (a0 : Int) (b1 : Int) (p5 : Int) (i6 : Int) : Option (Out (Int × Unit) (Int × Unit)) :=
  if (decide (i6 < 8)) = true then (if (0 : Int) ≤ (IntKind.u64.wrap i6) then (if ((Int.tmod (Int.fdiv (IntKind.i64.wrap b1) (2 ^ (min (Int.toNat (IntKind.u64.wrap i6)) IntKind.i64.bits))) 2) == 1) = true then (if (0 : Int) ≤ (IntKind.u64.wrap i6) then (rec a0 b1 (bits .xor .i64 p5 (IntKind.i64.wrap ((IntKind.i64.wrap a0) * 2 ^ (min (Int.toNat (IntKind.u64.wrap i6)) IntKind.i64.bits)))) (IntKind.i64.wrap (i6 + 1))) else none) else (rec a0 b1 p5 (IntKind.i64.wrap (i6 + 1)))) else none) else (some (.norm (p5, ())))
noncomputable def ref02_Times_l0 (K : Nat) (n : Nat) : Int → Int → Int → Int → Option (Out (Int × Unit) (Int × Unit)) := iter (fun _ _ _ _ => none) (ref02_Times_l0_b K) n
noncomputable def ref02_Times_l1_b (K : Nat) (rec : Int → Int → Option (Out (Int × Unit) (Int × Unit))) (p5 : Int) (i7 : Int) : Option (Out (Int × Unit) (Int × Unit)) :=
  if (decide (i7 ≥ 8)) = true then (if (0 : Int) ≤ (IntKind.u64.wrap i7) then (if ((Int.tmod (Int.fdiv p5 (2 ^ (min (Int.toNat (IntKind.u64.wrap i7)) IntKind.i64.bits))) 2) == 1) = true then (if (0 : Int) ≤ (IntKind.u64.wrap (IntKind.i64.wrap (i7 - 8))) then (rec (bits .xor .i64 p5 (IntKind.i64.wrap (283 * 2 ^ (min (Int.toNat (IntKind.u64.wrap (IntKind.i64.wrap (i7 - 8)))) IntKind.i64.bits)))) (IntKind.i64.wrap (i7 - 1))) else none) else (rec p5 (IntKind.i64.wrap (i7 - 1)))) else none) else (some (.norm (p5, ())))
noncomputable def ref02_Times_l1 (K : Nat) (n : Nat) : Int → Int → Option (Out (Int × Unit) (Int × Unit)) := iter (fun _ _ => none) (ref02_Times_l1_b K) n
/-- coffer/cofferref02.Times -/
noncomputable def ref02_Times (K : Nat) (a0 : Int) (b1 : Int) : Option (Int × Unit) :=
  (ref02_Times_l0 K K a0 b1 0 0).bind fun y_1 =>
  (match y_1 with
  | .norm z_2n => ((ref02_Times_l1 K K z_2n.1 14).bind fun y_3 =>
  (match y_3 with
  | .norm z_4n => (some ((IntKind.u8.wrap z_4n.1), ()))
  | .ret z_4r => (some (z_4r.1, ()))))
  | .ret z_2r => (some (z_2r.1, ())))
theorem ref02_Times_l0_ok (K : Nat) (n : Nat) : StmtQOk prog [(0, .int .u8), (1, .int .u8), (5, .int .i64), (6, .int .i64)] [(5, .int .i64)] [(4, .int .u8)] [(5, 7), (8, 26)] ((fun n x w => ref02_Times_l0 K n x.1 x.2.1 x.2.2.1 x.2.2.2.1) n) (.block 0 (.loop (cd (bodyOf f43) [1, 1, 0, 1, 0, 0]))) :=
    mk_loopQ (O := tabL []) (root := (bodyOf f43)) (π := [1, 1, 0, 1, 0, 0]) (id := 0) (Li := [(0, .int .u8), (1, .int .u8), (5, .int .i64), (6, .int .i64)]) (Lo := [(5, .int .i64)]) (Lr := [(4, .int .u8)]) (S := (fun n x w => ref02_Times_l0 K n x.1 x.2.1 x.2.2.1 x.2.2.2.1)) (body := cd (bodyOf f43) [1, 1, 0, 1, 0, 0]) (ref02_Times_Rok K) (OrcQ.nil _ _ _) (by kernel_rfl) (fun _ _ => by kernel_rfl) (fun _ _ _ => by kernel_rfl) n
noncomputable def ref02_Times_l0_se (K : Nat) : SQ := stmtQ [(0, .int .u8), (1, .int .u8), (5, .int .i64), (6, .int .i64)] [(5, .int .i64)] [(4, .int .u8)] [(5, 7), (8, 26)] (fun x w => ref02_Times_l0 K K x.1 x.2.1 x.2.2.1 x.2.2.2.1)
theorem ref02_Times_l0_se_ok (K : Nat) (R : Rg) (h : subRB [(5, 7), (8, 26)] R = true) : (ref02_Times_l0_se K).Ok prog R (.block 0 (.loop (cd (bodyOf f43) [1, 1, 0, 1, 0, 0]))) := stmtQ_ok (Li := [(0, .int .u8), (1, .int .u8), (5, .int .i64), (6, .int .i64)]) (Lo := [(5, .int .i64)]) (Lr := [(4, .int .u8)]) (S := (fun x w => ref02_Times_l0 K K x.1 x.2.1 x.2.2.1 x.2.2.2.1)) (ref02_Times_l0_ok K K) (subR_of h)
theorem ref02_Times_l1_ok (K : Nat) (n : Nat) : StmtQOk prog [(5, .int .i64), (7, .int .i64)] [(5, .int .i64)] [(4, .int .u8)] [(5, 6), (7, 8), (26, 42)] ((fun n x w => ref02_Times_l1 K n x.1 x.2.1) n) (.block 2 (.loop (cd (bodyOf f43) [1, 1, 1, 0, 1, 0, 0]))) :=
    mk_loopQ (O := tabL []) (root := (bodyOf f43)) (π := [1, 1, 1, 0, 1, 0, 0]) (id := 2) (Li := [(5, .int .i64), (7, .int .i64)]) (Lo := [(5, .int .i64)]) (Lr := [(4, .int .u8)]) (S := (fun n x w => ref02_Times_l1 K n x.1 x.2.1)) (body := cd (bodyOf f43) [1, 1, 1, 0, 1, 0, 0]) (ref02_Times_Rok K) (OrcQ.nil _ _ _) (by kernel_rfl) (fun _ _ => by kernel_rfl) (fun _ _ _ => by kernel_rfl) n
noncomputable def ref02_Times_l1_se (K : Nat) : SQ := stmtQ [(5, .int .i64), (7, .int .i64)] [(5, .int .i64)] [(4, .int .u8)] [(5, 6), (7, 8), (26, 42)] (fun x w => ref02_Times_l1 K K x.1 x.2.1)
theorem ref02_Times_l1_se_ok (K : Nat) (R : Rg) (h : subRB [(5, 6), (7, 8), (26, 42)] R = true) : (ref02_Times_l1_se K).Ok prog R (.block 2 (.loop (cd (bodyOf f43) [1, 1, 1, 0, 1, 0, 0]))) := stmtQ_ok (Li := [(5, .int .i64), (7, .int .i64)]) (Lo := [(5, .int .i64)]) (Lr := [(4, .int .u8)]) (S := (fun x w => ref02_Times_l1 K K x.1 x.2.1)) (ref02_Times_l1_ok K K) (subR_of h)
theorem ref02_Times_facts : FunFacts prog 43 f43 (bodyOf f43) [(0, .int .u8), (1, .int .u8)] [(0, 44)] := ⟨func43, by kernel_rfl, by kernel_rfl, by kernel_rfl, by kernel_rfl, by kernel_rfl⟩
theorem ref02_Times_calls (K : Nat) (x : TT [(0, .int .u8), (1, .int .u8)]) (w : World) (y : TR [.int .u8]) (h : ref02_Times K x.1 x.2.1 = some y) : Calls prog 43 (encA [(0, .int .u8), (1, .int .u8)] x).toArray w (fun e w3 => e = .returned (resV (encR [.int .u8] y)) ∧ w3 = w) :=
    mk_funQ (O := tabL [([1, 1, 0, 1], ref02_Times_l0_se K), ([1, 1, 1, 0, 1], ref02_Times_l1_se K)]) (Lp := [(0, .int .u8), (1, .int .u8)]) (Rt := [.int .u8]) (S := (fun x w => ref02_Times K x.1 x.2.1)) (ref02_Times_Rok K) ref02_Times_facts (OrcQ.cons (by kernel_rfl) (ref02_Times_l0_se_ok K [(0, 44)] (by kernel_rfl)) (OrcQ.cons (by kernel_rfl) (ref02_Times_l1_se_ok K [(0, 44)] (by kernel_rfl)) (OrcQ.nil _ _ _))) (fun _ _ => by kernel_rfl) x w y h
noncomputable def ref02_Times_re (K : Nat) : RE := funR [(0, .int .u8), (1, .int .u8)] [.int .u8] (fun x w => ref02_Times K x.1 x.2.1)
theorem ref02_Times_ok (K : Nat) : (ref02_Times_re K).Ok prog 43 := funR_ok (Rt := [.int .u8]) (S := (fun x w => ref02_Times K x.1 x.2.1)) ref02_Times_facts fun x w y h => ref02_Times_calls K x w y h

noncomputable def ref02_Boxes_E (K : Nat) : List (Nat × CE) := []
theorem ref02_Boxes_Eok (K : Nat) : Env.Ok prog (tab (ref02_Boxes_E K)) := (Env.nil _)
noncomputable def ref02_Boxes_R (K : Nat) : List (Nat × RE) := [(64, ref02_bits_re K), (43, ref02_Times_re K)]
theorem ref02_Boxes_Rok (K : Nat) : REnv.Ok prog (tab (ref02_Boxes_R K)) := (REnv.cons (ref02_bits_ok K) (REnv.cons (ref02_Times_ok K) (REnv.nil _)))
noncomputable def ref02_Boxes_l0_b (K : Nat) (rec : Addr → Addr → Addr → Addr → Int → Int → Int → World → Option ((Unit) × World)) (a0 : Addr) (a1 : Addr) (s2 : Addr) (u3 : Addr) (b4 : Int) (y5 : Int) (i6 : Int) (w : World) : Option ((Unit) × World) :=
  if (decide (i6 < 255)) = true then ((ref02_bits K (IntKind.i64.wrap y5)).bind fun r_9 =>
  if (0 : Int) ≤ b4 ∧ b4 < ((256 : Nat) : Int) then ((stC (s2.add ((Int.toNat b4) * 1)) (.int .u8 r_9.1) w).bind fun w_10 =>
  (ref02_Times K b4 3).bind fun r_11 =>
  (ref02_Times K y5 246).bind fun r_12 =>
  rec a0 a1 s2 u3 r_11.1 r_12.1 (IntKind.i64.wrap (i6 + 1)) w_10) else none) else (some ((), w))
noncomputable def ref02_Boxes_l0 (K : Nat) (n : Nat) : Addr → Addr → Addr → Addr → Int → Int → Int → World → Option ((Unit) × World) := iter (fun _ _ _ _ _ _ _ _ => none) (ref02_Boxes_l0_b K) n
noncomputable def ref02_Boxes_l1_b (K : Nat) (rec : Addr → Addr → Addr → Addr → Int → World → Option ((Unit) × World)) (a0 : Addr) (a1 : Addr) (s2 : Addr) (u3 : Addr) (i7 : Int) (w : World) : Option ((Unit) × World) :=
  if (decide (i7 < 256)) = true then (if (0 : Int) ≤ i7 ∧ i7 < ((256 : Nat) : Int) then ((ldI .u8 (s2.add ((Int.toNat i7) * 1)) w).bind fun v_17 =>
  if (0 : Int) ≤ v_17 ∧ v_17 < ((256 : Nat) : Int) then ((stC (u3.add ((Int.toNat v_17) * 1)) (.int .u8 (IntKind.u8.wrap i7)) w).bind fun w_18 =>
  rec a0 a1 s2 u3 (IntKind.i64.wrap (i7 + 1)) w_18) else none) else none) else (some ((), w))
noncomputable def ref02_Boxes_l1 (K : Nat) (n : Nat) : Addr → Addr → Addr → Addr → Int → World → Option ((Unit) × World) := iter (fun _ _ _ _ _ _ => none) (ref02_Boxes_l1_b K) n
/-- coffer/cofferref02.Boxes -/
noncomputable def ref02_Boxes (K : Nat)  (w : World) : Option (((Array Value) × (Array Value) × Unit) × World) :=
  bnd (newB z93 93 w) fun p_1 w_2 =>
  bnd (newB z93 93 w_2) fun p_3 w_4 =>
  bnd (newB z93 93 w_4) fun s_5 w_6 =>
  bnd (newB z93 93 w_6) fun u_7 w_8 =>
  bnd (ref02_Boxes_l0 K K p_1 p_3 s_5 u_7 1 1 0 w_8) fun y_13 w_14 =>
  (ref02_bits K 0).bind fun r_15 =>
  (stC (s_5.add (0 * 1)) (.int .u8 r_15.1) w_14).bind fun w_16 =>
  bnd (ref02_Boxes_l1 K K p_1 p_3 s_5 u_7 0 w_16) fun y_19 w_20 =>
  (ldA 256 s_5 w_20.drew).bind fun v_21 =>
  (ldA 256 u_7 w_20.drew).bind fun v_22 =>
  if (v_21).size = 256 then ((stA p_1 v_21 w_20.drew).bind fun w_23 =>
  (ldA 256 u_7 w_23).bind fun v_24 =>
  sameK (.agg v_22) (.agg v_24) (if (v_22).size = 256 then ((stA p_3 v_22 w_23).bind fun w_25 =>
  (ldA 256 p_1 w_25).bind fun res_26 =>
  (ldA 256 p_3 w_25).bind fun res_27 =>
  some ((res_26, res_27, ()), w_25)) else none)) else none
theorem ref02_Boxes_l0_ok (K : Nat) (n : Nat) : StmtNOk prog [(0, .addr), (1, .addr), (2, .addr), (3, .addr), (4, .int .u8), (5, .int .u8), (6, .int .i64)] [] [(4, 7), (8, 21)] ((fun n x w => ref02_Boxes_l0 K n x.1 x.2.1 x.2.2.1 x.2.2.2.1 x.2.2.2.2.1 x.2.2.2.2.2.1 x.2.2.2.2.2.2.1 w) n) (.block 0 (.loop (cd (bodyOf f42) [1, 1, 1, 1, 1, 0, 1, 0, 0]))) :=
    mk_loopN (O := tabL []) (root := (bodyOf f42)) (π := [1, 1, 1, 1, 1, 0, 1, 0, 0]) (id := 0) (Li := [(0, .addr), (1, .addr), (2, .addr), (3, .addr), (4, .int .u8), (5, .int .u8), (6, .int .i64)]) (Lo := []) (S := (fun n x w => ref02_Boxes_l0 K n x.1 x.2.1 x.2.2.1 x.2.2.2.1 x.2.2.2.2.1 x.2.2.2.2.2.1 x.2.2.2.2.2.2.1 w)) (body := cd (bodyOf f42) [1, 1, 1, 1, 1, 0, 1, 0, 0]) (ref02_Boxes_Eok K) (ref02_Boxes_Rok K) rfl (Orc.nil _ _ _) (by kernel_rfl) (fun _ _ => by kernel_rfl) (fun _ _ _ => by kernel_rfl) n
noncomputable def ref02_Boxes_l0_se (K : Nat) : SE := stmtN [(0, .addr), (1, .addr), (2, .addr), (3, .addr), (4, .int .u8), (5, .int .u8), (6, .int .i64)] [] [(4, 7), (8, 21)] (fun x w => ref02_Boxes_l0 K K x.1 x.2.1 x.2.2.1 x.2.2.2.1 x.2.2.2.2.1 x.2.2.2.2.2.1 x.2.2.2.2.2.2.1 w)
theorem ref02_Boxes_l0_se_ok (K : Nat) (R : Rg) (h : subRB [(4, 7), (8, 21)] R = true) : (ref02_Boxes_l0_se K).Ok prog R (.block 0 (.loop (cd (bodyOf f42) [1, 1, 1, 1, 1, 0, 1, 0, 0]))) := stmtN_ok (Li := [(0, .addr), (1, .addr), (2, .addr), (3, .addr), (4, .int .u8), (5, .int .u8), (6, .int .i64)]) (Lo := []) (S := (fun x w => ref02_Boxes_l0 K K x.1 x.2.1 x.2.2.1 x.2.2.2.1 x.2.2.2.2.1 x.2.2.2.2.2.1 x.2.2.2.2.2.2.1 w)) (ref02_Boxes_l0_ok K K) (subR_of h)
theorem ref02_Boxes_l1_ok (K : Nat) (n : Nat) : StmtNOk prog [(0, .addr), (1, .addr), (2, .addr), (3, .addr), (7, .int .i64)] [] [(7, 8), (23, 33)] ((fun n x w => ref02_Boxes_l1 K n x.1 x.2.1 x.2.2.1 x.2.2.2.1 x.2.2.2.2.1 w) n) (.block 2 (.loop (cd (bodyOf f42) [1, 1, 1, 1, 1, 1, 1, 0, 1, 0, 0]))) :=
    mk_loopN (O := tabL []) (root := (bodyOf f42)) (π := [1, 1, 1, 1, 1, 1, 1, 0, 1, 0, 0]) (id := 2) (Li := [(0, .addr), (1, .addr), (2, .addr), (3, .addr), (7, .int .i64)]) (Lo := []) (S := (fun n x w => ref02_Boxes_l1 K n x.1 x.2.1 x.2.2.1 x.2.2.2.1 x.2.2.2.2.1 w)) (body := cd (bodyOf f42) [1, 1, 1, 1, 1, 1, 1, 0, 1, 0, 0]) (ref02_Boxes_Eok K) (ref02_Boxes_Rok K) rfl (Orc.nil _ _ _) (by kernel_rfl) (fun _ _ => by kernel_rfl) (fun _ _ _ => by kernel_rfl) n
noncomputable def ref02_Boxes_l1_se (K : Nat) : SE := stmtN [(0, .addr), (1, .addr), (2, .addr), (3, .addr), (7, .int .i64)] [] [(7, 8), (23, 33)] (fun x w => ref02_Boxes_l1 K K x.1 x.2.1 x.2.2.1 x.2.2.2.1 x.2.2.2.2.1 w)
theorem ref02_Boxes_l1_se_ok (K : Nat) (R : Rg) (h : subRB [(7, 8), (23, 33)] R = true) : (ref02_Boxes_l1_se K).Ok prog R (.block 2 (.loop (cd (bodyOf f42) [1, 1, 1, 1, 1, 1, 1, 0, 1, 0, 0]))) := stmtN_ok (Li := [(0, .addr), (1, .addr), (2, .addr), (3, .addr), (7, .int .i64)]) (Lo := []) (S := (fun x w => ref02_Boxes_l1 K K x.1 x.2.1 x.2.2.1 x.2.2.2.1 x.2.2.2.2.1 w)) (ref02_Boxes_l1_ok K K) (subR_of h)
theorem ref02_Boxes_facts : FunFacts prog 42 f42 (bodyOf f42) [] [(0, 35)] := ⟨func42, by kernel_rfl, by kernel_rfl, by kernel_rfl, by kernel_rfl, by kernel_rfl⟩
theorem ref02_Boxes_calls (K : Nat) (x : TT []) (w : World) (y : TR [.agg, .agg]) (w2 : World) (h : ref02_Boxes K  w = some (y, w2)) : Calls prog 42 (encA [] x).toArray w (fun e w3 => e = .returned (resV (encR [.agg, .agg] y)) ∧ w3 = w2) :=
    mk_fun (O := tabL [([1, 1, 1, 1, 1, 0, 1], ref02_Boxes_l0_se K), ([1, 1, 1, 1, 1, 1, 1, 0, 1], ref02_Boxes_l1_se K)]) (Lp := []) (Rt := [.agg, .agg]) (S := (fun x w => ref02_Boxes K  w)) (ref02_Boxes_Eok K) (ref02_Boxes_Rok K) rfl ref02_Boxes_facts (Orc.cons (by kernel_rfl) (ref02_Boxes_l0_se_ok K [(0, 35)] (by kernel_rfl)) (Orc.cons (by kernel_rfl) (ref02_Boxes_l1_se_ok K [(0, 35)] (by kernel_rfl)) (Orc.nil _ _ _))) (fun _ _ => by kernel_rfl) x w y w2 h
noncomputable def ref02_Boxes_ce (K : Nat) : CE := funE [] [.agg, .agg] (fun x w => ref02_Boxes K  w)
theorem ref02_Boxes_ok (K : Nat) : (ref02_Boxes_ce K).Ok prog 42 := funE_ok (Rt := [.agg, .agg]) (S := (fun x w => ref02_Boxes K  w)) ref02_Boxes_facts fun x w y w2 h => ref02_Boxes_calls K x w y w2 h

noncomputable def ref02_New_E (K : Nat) : List (Nat × CE) := [(42, ref02_Boxes_ce K)]
theorem ref02_New_Eok (K : Nat) : Env.Ok prog (tab (ref02_New_E K)) := (Env.cons (ref02_Boxes_ok K) (Env.nil _))
noncomputable def ref02_New_R (K : Nat) : List (Nat × RE) := [(43, ref02_Times_re K)]
theorem ref02_New_Rok (K : Nat) : REnv.Ok prog (tab (ref02_New_R K)) := (REnv.cons (ref02_Times_ok K) (REnv.nil _))
noncomputable def ref02_New_s0 (K : Nat) (key0 : Sl) (w : World) : Option ((Bool × Unit) × World) :=
  if (((key0.len : Nat) : Int) != 16) = true then (if (((key0.len : Nat) : Int) != 24) = true then (some (((((key0.len : Nat) : Int) != 32), ()), w)) else (some ((false, ()), w))) else (some ((false, ()), w))
noncomputable def ref02_New_l1_b (K : Nat) (rec : Sl → Addr → Int → World → Option ((Unit) × World)) (key0 : Sl) (k4 : Addr) (j5 : Int) (w : World) : Option ((Unit) × World) :=
  if (decide (j5 < 256)) = true then ((ref02_Times K (IntKind.u8.wrap j5) 2).bind fun r_10 =>
  (ref02_Times K r_10.1 2).bind fun r_11 =>
  (ref02_Times K r_11.1 2).bind fun r_12 =>
  if (0 : Int) ≤ j5 ∧ j5 < ((256 : Nat) : Int) then ((stC (((k4.add 514).add (1 * 256)).add ((Int.toNat j5) * 1)) (.int .u8 (IntKind.u8.wrap j5)) w).bind fun w_13 =>
  if (0 : Int) ≤ j5 ∧ j5 < ((256 : Nat) : Int) then ((stC (((k4.add 514).add (2 * 256)).add ((Int.toNat j5) * 1)) (.int .u8 r_10.1) w_13).bind fun w_14 =>
  if (0 : Int) ≤ j5 ∧ j5 < ((256 : Nat) : Int) then ((stC (((k4.add 514).add (3 * 256)).add ((Int.toNat j5) * 1)) (.int .u8 (bits .xor .u8 r_10.1 (IntKind.u8.wrap j5))) w_14).bind fun w_15 =>
  if (0 : Int) ≤ j5 ∧ j5 < ((256 : Nat) : Int) then ((stC (((k4.add 514).add (9 * 256)).add ((Int.toNat j5) * 1)) (.int .u8 (bits .xor .u8 r_12.1 (IntKind.u8.wrap j5))) w_15).bind fun w_16 =>
  if (0 : Int) ≤ j5 ∧ j5 < ((256 : Nat) : Int) then ((stC (((k4.add 514).add (11 * 256)).add ((Int.toNat j5) * 1)) (.int .u8 (bits .xor .u8 (bits .xor .u8 r_12.1 r_10.1) (IntKind.u8.wrap j5))) w_16).bind fun w_17 =>
  if (0 : Int) ≤ j5 ∧ j5 < ((256 : Nat) : Int) then ((stC (((k4.add 514).add (13 * 256)).add ((Int.toNat j5) * 1)) (.int .u8 (bits .xor .u8 (bits .xor .u8 r_12.1 r_11.1) (IntKind.u8.wrap j5))) w_17).bind fun w_18 =>
  if (0 : Int) ≤ j5 ∧ j5 < ((256 : Nat) : Int) then ((stC (((k4.add 514).add (14 * 256)).add ((Int.toNat j5) * 1)) (.int .u8 (bits .xor .u8 (bits .xor .u8 r_12.1 r_11.1) r_10.1)) w_18).bind fun w_19 =>
  rec key0 k4 (IntKind.i64.wrap (j5 + 1)) w_19) else none) else none) else none) else none) else none) else none) else none) else (some ((), w))
noncomputable def ref02_New_l1 (K : Nat) (n : Nat) : Sl → Addr → Int → World → Option ((Unit) × World) := iter (fun _ _ _ _ => none) (ref02_New_l1_b K) n
noncomputable def ref02_New_s4 (K : Nat) (nk10 : Int) (i12 : Int) (w : World) : Option ((Bool × Unit) × World) :=
  if (nk10 == 8) = true then (some ((((Int.tmod i12 8) == 4), ()), w)) else (some ((false, ()), w))
noncomputable def ref02_New_s3 (K : Nat) (k4 : Addr) (nk10 : Int) (power11 : Int) (i12 : Int) (t13 : Sl) (a186 : Bool) (w : World) : Option ((Int × Sl × Unit) × World) :=
  if a186 = true then ((t13.a).bind fun p_44 =>
  if (0 : Int) ≤ 1 ∧ 1 < ((t13.len : Nat) : Int) then ((t13.a).bind fun p_45 =>
  if (0 : Int) ≤ 2 ∧ 2 < ((t13.len : Nat) : Int) then ((t13.a).bind fun p_46 =>
  if (0 : Int) ≤ 3 ∧ 3 < ((t13.len : Nat) : Int) then ((t13.a).bind fun p_47 =>
  if (0 : Int) ≤ 0 ∧ 0 < ((t13.len : Nat) : Int) then ((ldI .u8 (p_44.add (1 * 1)) w.drew).bind fun v_48 =>
  if (0 : Int) ≤ v_48 ∧ v_48 < ((256 : Nat) : Int) then ((ldI .u8 ((k4.add 2).add ((Int.toNat v_48) * 1)) w.drew).bind fun v_49 =>
  (ldI .u8 (p_45.add (2 * 1)) w.drew).bind fun v_50 =>
  if (0 : Int) ≤ v_50 ∧ v_50 < ((256 : Nat) : Int) then ((ldI .u8 ((k4.add 2).add ((Int.toNat v_50) * 1)) w.drew).bind fun v_51 =>
  (ldI .u8 (p_46.add (3 * 1)) w.drew).bind fun v_52 =>
  if (0 : Int) ≤ v_52 ∧ v_52 < ((256 : Nat) : Int) then ((ldI .u8 ((k4.add 2).add ((Int.toNat v_52) * 1)) w.drew).bind fun v_53 =>
  (ldI .u8 (p_47.add (0 * 1)) w.drew).bind fun v_54 =>
  if (0 : Int) ≤ v_54 ∧ v_54 < ((256 : Nat) : Int) then ((ldI .u8 ((k4.add 2).add ((Int.toNat v_54) * 1)) w.drew).bind fun v_55 =>
  bnd (bldS prog 22 4 #[(0, (.int .u8 (bits .xor .u8 v_49 power11))), (1, (.int .u8 v_51)), (2, (.int .u8 v_53)), (3, (.int .u8 v_55))] w.drew) fun s_56 w_57 =>
  (ref02_Times K power11 2).bind fun r_58 =>
  some ((r_58.1, s_56, ()), w_57)) else none) else none) else none) else none) else none) else none) else none) else none) else (bnd (ref02_New_s4 K nk10 i12 w) fun y_59 w_60 =>
  if y_59.1 = true then ((t13.a).bind fun p_61 =>
  if (0 : Int) ≤ 0 ∧ 0 < ((t13.len : Nat) : Int) then ((t13.a).bind fun p_62 =>
  if (0 : Int) ≤ 1 ∧ 1 < ((t13.len : Nat) : Int) then ((t13.a).bind fun p_63 =>
  if (0 : Int) ≤ 2 ∧ 2 < ((t13.len : Nat) : Int) then ((t13.a).bind fun p_64 =>
  if (0 : Int) ≤ 3 ∧ 3 < ((t13.len : Nat) : Int) then ((ldI .u8 (p_61.add (0 * 1)) w_60.drew).bind fun v_65 =>
  if (0 : Int) ≤ v_65 ∧ v_65 < ((256 : Nat) : Int) then ((ldI .u8 ((k4.add 2).add ((Int.toNat v_65) * 1)) w_60.drew).bind fun v_66 =>
  (ldI .u8 (p_62.add (1 * 1)) w_60.drew).bind fun v_67 =>
  if (0 : Int) ≤ v_67 ∧ v_67 < ((256 : Nat) : Int) then ((ldI .u8 ((k4.add 2).add ((Int.toNat v_67) * 1)) w_60.drew).bind fun v_68 =>
  (ldI .u8 (p_63.add (2 * 1)) w_60.drew).bind fun v_69 =>
  if (0 : Int) ≤ v_69 ∧ v_69 < ((256 : Nat) : Int) then ((ldI .u8 ((k4.add 2).add ((Int.toNat v_69) * 1)) w_60.drew).bind fun v_70 =>
  (ldI .u8 (p_64.add (3 * 1)) w_60.drew).bind fun v_71 =>
  if (0 : Int) ≤ v_71 ∧ v_71 < ((256 : Nat) : Int) then ((ldI .u8 ((k4.add 2).add ((Int.toNat v_71) * 1)) w_60.drew).bind fun v_72 =>
  bnd (bldS prog 22 4 #[(0, (.int .u8 v_66)), (1, (.int .u8 v_68)), (2, (.int .u8 v_70)), (3, (.int .u8 v_72))] w_60.drew) fun s_73 w_74 =>
  some ((power11, s_73, ()), w_74)) else none) else none) else none) else none) else none) else none) else none) else none) else (some ((power11, t13, ()), w_60)))
noncomputable def ref02_New_l5_b (K : Nat) (rec : Addr → Int → Int → Int → Sl → Int → World → Option ((Unit) × World)) (k4 : Addr) (nk10 : Int) (power11 : Int) (i12 : Int) (t13 : Sl) (j14 : Int) (w : World) : Option ((Unit) × World) :=
  if (decide (j14 < 4)) = true then ((t13.a).bind fun p_77 =>
  if (0 : Int) ≤ j14 ∧ j14 < ((t13.len : Nat) : Int) then ((ldS (k4.add 1) w.drew).bind fun v_78 =>
  (v_78.a).bind fun p_79 =>
  if (0 : Int) ≤ (IntKind.i64.wrap ((IntKind.i64.wrap (4 * (IntKind.i64.wrap (i12 - nk10)))) + j14)) ∧ (IntKind.i64.wrap ((IntKind.i64.wrap (4 * (IntKind.i64.wrap (i12 - nk10)))) + j14)) < ((v_78.len : Nat) : Int) then ((ldI .u8 (p_79.add ((Int.toNat (IntKind.i64.wrap ((IntKind.i64.wrap (4 * (IntKind.i64.wrap (i12 - nk10)))) + j14))) * 1)) w.drew).bind fun v_80 =>
  (ldI .u8 (p_77.add ((Int.toNat j14) * 1)) w.drew).bind fun v_81 =>
  (ldS (k4.add 1) w.drew).bind fun v_82 =>
  bnd (bldS prog 22 1 #[(0, (.int .u8 (bits .xor .u8 v_80 v_81)))] w.drew) fun s_83 w_84 =>
  (ldS (k4.add 1) w_84).bind fun v_85 =>
  sameK (.slice v_82.a v_82.len v_82.cap) (.slice v_85.a v_85.len v_85.cap) (bnd (apd prog 22 22 (.slice v_82.a v_82.len v_82.cap) (.slice s_83.a s_83.len s_83.cap) w_84) fun s_86 w_87 =>
  (stC (k4.add 1) (.slice s_86.a s_86.len s_86.cap) w_87).bind fun w_88 =>
  rec k4 nk10 power11 i12 t13 (IntKind.i64.wrap (j14 + 1)) w_88)) else none) else none) else (some ((), w))
noncomputable def ref02_New_l5 (K : Nat) (n : Nat) : Addr → Int → Int → Int → Sl → Int → World → Option ((Unit) × World) := iter (fun _ _ _ _ _ _ _ => none) (ref02_New_l5_b K) n
noncomputable def ref02_New_l2_b (K : Nat) (rec : Addr → Int → Int → Int → World → Option ((Unit) × World)) (k4 : Addr) (nk10 : Int) (power11 : Int) (i12 : Int) (w : World) : Option ((Unit) × World) :=
  if (decide (i12 < (IntKind.i64.wrap (4 * (IntKind.i64.wrap (nk10 + 7)))))) = true then ((ldS (k4.add 1) w.drew).bind fun v_30 =>
  (v_30.a).bind fun p_31 =>
  if (0 : Int) ≤ (IntKind.i64.wrap ((IntKind.i64.wrap (4 * i12)) - 4)) ∧ (IntKind.i64.wrap ((IntKind.i64.wrap (4 * i12)) - 4)) < ((v_30.len : Nat) : Int) then ((ldI .u8 (p_31.add ((Int.toNat (IntKind.i64.wrap ((IntKind.i64.wrap (4 * i12)) - 4))) * 1)) w.drew).bind fun v_32 =>
  (ldS (k4.add 1) w.drew).bind fun v_33 =>
  (v_33.a).bind fun p_34 =>
  if (0 : Int) ≤ (IntKind.i64.wrap ((IntKind.i64.wrap (4 * i12)) - 3)) ∧ (IntKind.i64.wrap ((IntKind.i64.wrap (4 * i12)) - 3)) < ((v_33.len : Nat) : Int) then ((ldI .u8 (p_34.add ((Int.toNat (IntKind.i64.wrap ((IntKind.i64.wrap (4 * i12)) - 3))) * 1)) w.drew).bind fun v_35 =>
  (ldS (k4.add 1) w.drew).bind fun v_36 =>
  (v_36.a).bind fun p_37 =>
  if (0 : Int) ≤ (IntKind.i64.wrap ((IntKind.i64.wrap (4 * i12)) - 2)) ∧ (IntKind.i64.wrap ((IntKind.i64.wrap (4 * i12)) - 2)) < ((v_36.len : Nat) : Int) then ((ldI .u8 (p_37.add ((Int.toNat (IntKind.i64.wrap ((IntKind.i64.wrap (4 * i12)) - 2))) * 1)) w.drew).bind fun v_38 =>
  (ldS (k4.add 1) w.drew).bind fun v_39 =>
  (v_39.a).bind fun p_40 =>
  if (0 : Int) ≤ (IntKind.i64.wrap ((IntKind.i64.wrap (4 * i12)) - 1)) ∧ (IntKind.i64.wrap ((IntKind.i64.wrap (4 * i12)) - 1)) < ((v_39.len : Nat) : Int) then ((ldI .u8 (p_40.add ((Int.toNat (IntKind.i64.wrap ((IntKind.i64.wrap (4 * i12)) - 1))) * 1)) w.drew).bind fun v_41 =>
  bnd (bldS prog 22 4 #[(0, (.int .u8 v_32)), (1, (.int .u8 v_35)), (2, (.int .u8 v_38)), (3, (.int .u8 v_41))] w.drew) fun s_42 w_43 =>
  if nk10 ≠ 0 then (bnd (ref02_New_s3 K k4 nk10 power11 i12 s_42 ((Int.tmod i12 nk10) == 0) w_43) fun y_75 w_76 =>
  bnd (ref02_New_l5 K K k4 nk10 y_75.1 i12 y_75.2.1 0 w_76) fun y_89 w_90 =>
  rec k4 nk10 y_75.1 (IntKind.i64.wrap (i12 + 1)) w_90) else none) else none) else none) else none) else none) else (some ((), w))
noncomputable def ref02_New_l2 (K : Nat) (n : Nat) : Addr → Int → Int → Int → World → Option ((Unit) × World) := iter (fun _ _ _ _ _ => none) (ref02_New_l2_b K) n
/-- coffer/cofferref02.New -/
noncomputable def ref02_New (K : Nat) (key0 : Sl) (w : World) : Option (((Option Addr) × Int × Unit) × World) :=
  bnd (ref02_New_s0 K key0 w) fun y_1 w_2 =>
  if y_1.1 = true then (some ((none, 20, ()), w_2)) else ((prog.built 96 []).bind fun cs_3 =>
  bnd (newB cs_3 96 w_2) fun p_4 w_5 =>
  bnd (ref02_Boxes K  w_5) fun r_6 w_7 =>
  if (r_6.1).size = 256 then ((stA (p_4.add 2) r_6.1 w_7).bind fun w_8 =>
  if (r_6.2.1).size = 256 then ((stA (p_4.add 258) r_6.2.1 w_8).bind fun w_9 =>
  bnd (ref02_New_l1 K K key0 p_4 0 w_9) fun y_20 w_21 =>
  (ldS (p_4.add 0) w_21).bind fun v_22 =>
  bnd (apd prog 22 22 (.slice v_22.a v_22.len v_22.cap) (.slice key0.a key0.len key0.cap) w_21) fun s_23 w_24 =>
  (stC (p_4.add 0) (.slice s_23.a s_23.len s_23.cap) w_24).bind fun w_25 =>
  (ldS (p_4.add 1) w_25).bind fun v_26 =>
  bnd (apd prog 22 22 (.slice v_26.a v_26.len v_26.cap) (.slice key0.a key0.len key0.cap) w_25) fun s_27 w_28 =>
  (stC (p_4.add 1) (.slice s_27.a s_27.len s_27.cap) w_28).bind fun w_29 =>
  bnd (ref02_New_l2 K K p_4 (IntKind.i64.wrap (Int.tdiv ((key0.len : Nat) : Int) 4)) 1 (IntKind.i64.wrap (Int.tdiv ((key0.len : Nat) : Int) 4)) w_29) fun y_91 w_92 =>
  some (((some p_4), 0, ()), w_92)) else none) else none)
theorem ref02_New_s0_ok (K : Nat) : StmtNOk prog [(0, .sl)] [(27, .bool)] [(15, 28)] (fun x w => ref02_New_s0 K x.1 w) (cd (bodyOf f11) [1, 0, 0]) :=
    mk_stmtN (O := tabL []) (root := (bodyOf f11)) (π := [1, 0, 0]) (Li := [(0, .sl)]) (Lo := [(27, .bool)]) (S := (fun x w => ref02_New_s0 K x.1 w)) (ref02_New_Eok K) (ref02_New_Rok K) rfl (Orc.nil _ _ _) (by kernel_rfl) (fun _ _ => by kernel_rfl)
noncomputable def ref02_New_s0_se (K : Nat) : SE := stmtN [(0, .sl)] [(27, .bool)] [(15, 28)] (fun x w => ref02_New_s0 K x.1 w)
theorem ref02_New_s0_se_ok (K : Nat) (R : Rg) (h : subRB [(15, 28)] R = true) : (ref02_New_s0_se K).Ok prog R (cd (bodyOf f11) [1, 0, 0]) := stmtN_ok (Li := [(0, .sl)]) (Lo := [(27, .bool)]) (S := (fun x w => ref02_New_s0 K x.1 w)) (ref02_New_s0_ok K) (subR_of h)
theorem ref02_New_l1_ok (K : Nat) (n : Nat) : StmtNOk prog [(0, .sl), (4, .addr), (5, .int .i64)] [] [(5, 10), (40, 117)] ((fun n x w => ref02_New_l1 K n x.1 x.2.1 x.2.2.1 w) n) (.block 0 (.loop (cd (bodyOf f11) [1, 1, 1, 1, 0, 1, 0, 0]))) :=
    mk_loopN (O := tabL []) (root := (bodyOf f11)) (π := [1, 1, 1, 1, 0, 1, 0, 0]) (id := 0) (Li := [(0, .sl), (4, .addr), (5, .int .i64)]) (Lo := []) (S := (fun n x w => ref02_New_l1 K n x.1 x.2.1 x.2.2.1 w)) (body := cd (bodyOf f11) [1, 1, 1, 1, 0, 1, 0, 0]) (ref02_New_Eok K) (ref02_New_Rok K) rfl (Orc.nil _ _ _) (by kernel_rfl) (fun _ _ => by kernel_rfl) (fun _ _ _ => by kernel_rfl) n
noncomputable def ref02_New_l1_se (K : Nat) : SE := stmtN [(0, .sl), (4, .addr), (5, .int .i64)] [] [(5, 10), (40, 117)] (fun x w => ref02_New_l1 K K x.1 x.2.1 x.2.2.1 w)
theorem ref02_New_l1_se_ok (K : Nat) (R : Rg) (h : subRB [(5, 10), (40, 117)] R = true) : (ref02_New_l1_se K).Ok prog R (.block 0 (.loop (cd (bodyOf f11) [1, 1, 1, 1, 0, 1, 0, 0]))) := stmtN_ok (Li := [(0, .sl), (4, .addr), (5, .int .i64)]) (Lo := []) (S := (fun x w => ref02_New_l1 K K x.1 x.2.1 x.2.2.1 w)) (ref02_New_l1_ok K K) (subR_of h)
theorem ref02_New_s4_ok (K : Nat) : StmtNOk prog [(10, .int .i64), (12, .int .i64)] [(230, .bool)] [(224, 231)] (fun x w => ref02_New_s4 K x.1 x.2.1 w) (cd (bodyOf f11) [1, 1, 1, 1, 1, 1, 1, 1, 1, 0, 1, 0, 0, 1, 0, 0, 1, 0, 1, 1, 0]) :=
    mk_stmtN (O := tabL []) (root := (bodyOf f11)) (π := [1, 1, 1, 1, 1, 1, 1, 1, 1, 0, 1, 0, 0, 1, 0, 0, 1, 0, 1, 1, 0]) (Li := [(10, .int .i64), (12, .int .i64)]) (Lo := [(230, .bool)]) (S := (fun x w => ref02_New_s4 K x.1 x.2.1 w)) (ref02_New_Eok K) (ref02_New_Rok K) rfl (Orc.nil _ _ _) (by kernel_rfl) (fun _ _ => by kernel_rfl)
noncomputable def ref02_New_s4_se (K : Nat) : SE := stmtN [(10, .int .i64), (12, .int .i64)] [(230, .bool)] [(224, 231)] (fun x w => ref02_New_s4 K x.1 x.2.1 w)
theorem ref02_New_s4_se_ok (K : Nat) (R : Rg) (h : subRB [(224, 231)] R = true) : (ref02_New_s4_se K).Ok prog R (cd (bodyOf f11) [1, 1, 1, 1, 1, 1, 1, 1, 1, 0, 1, 0, 0, 1, 0, 0, 1, 0, 1, 1, 0]) := stmtN_ok (Li := [(10, .int .i64), (12, .int .i64)]) (Lo := [(230, .bool)]) (S := (fun x w => ref02_New_s4 K x.1 x.2.1 w)) (ref02_New_s4_ok K) (subR_of h)
theorem ref02_New_s3_ok (K : Nat) : StmtNOk prog [(4, .addr), (10, .int .i64), (11, .int .u8), (12, .int .i64), (13, .sl), (186, .bool)] [(11, .int .u8), (13, .sl)] [(11, 12), (13, 14), (187, 264)] (fun x w => ref02_New_s3 K x.1 x.2.1 x.2.2.1 x.2.2.2.1 x.2.2.2.2.1 x.2.2.2.2.2.1 w) (cd (bodyOf f11) [1, 1, 1, 1, 1, 1, 1, 1, 1, 0, 1, 0, 0, 1, 0, 0, 1, 0, 1]) :=
    mk_stmtN (O := tabL [([1, 1, 1, 1, 1, 1, 1, 1, 1, 0, 1, 0, 0, 1, 0, 0, 1, 0, 1, 1, 0], ref02_New_s4_se K)]) (root := (bodyOf f11)) (π := [1, 1, 1, 1, 1, 1, 1, 1, 1, 0, 1, 0, 0, 1, 0, 0, 1, 0, 1]) (Li := [(4, .addr), (10, .int .i64), (11, .int .u8), (12, .int .i64), (13, .sl), (186, .bool)]) (Lo := [(11, .int .u8), (13, .sl)]) (S := (fun x w => ref02_New_s3 K x.1 x.2.1 x.2.2.1 x.2.2.2.1 x.2.2.2.2.1 x.2.2.2.2.2.1 w)) (ref02_New_Eok K) (ref02_New_Rok K) rfl (Orc.cons (by kernel_rfl) (ref02_New_s4_se_ok K [(11, 12), (13, 14), (187, 264)] (by kernel_rfl)) (Orc.nil _ _ _)) (by kernel_rfl) (fun _ _ => by kernel_rfl)
noncomputable def ref02_New_s3_se (K : Nat) : SE := stmtN [(4, .addr), (10, .int .i64), (11, .int .u8), (12, .int .i64), (13, .sl), (186, .bool)] [(11, .int .u8), (13, .sl)] [(11, 12), (13, 14), (187, 264)] (fun x w => ref02_New_s3 K x.1 x.2.1 x.2.2.1 x.2.2.2.1 x.2.2.2.2.1 x.2.2.2.2.2.1 w)
theorem ref02_New_s3_se_ok (K : Nat) (R : Rg) (h : subRB [(11, 12), (13, 14), (187, 264)] R = true) : (ref02_New_s3_se K).Ok prog R (cd (bodyOf f11) [1, 1, 1, 1, 1, 1, 1, 1, 1, 0, 1, 0, 0, 1, 0, 0, 1, 0, 1]) := stmtN_ok (Li := [(4, .addr), (10, .int .i64), (11, .int .u8), (12, .int .i64), (13, .sl), (186, .bool)]) (Lo := [(11, .int .u8), (13, .sl)]) (S := (fun x w => ref02_New_s3 K x.1 x.2.1 x.2.2.1 x.2.2.2.1 x.2.2.2.2.1 x.2.2.2.2.2.1 w)) (ref02_New_s3_ok K) (subR_of h)
theorem ref02_New_l5_ok (K : Nat) (n : Nat) : StmtNOk prog [(4, .addr), (10, .int .i64), (11, .int .u8), (12, .int .i64), (13, .sl), (14, .int .i64)] [] [(14, 15), (264, 294)] ((fun n x w => ref02_New_l5 K n x.1 x.2.1 x.2.2.1 x.2.2.2.1 x.2.2.2.2.1 x.2.2.2.2.2.1 w) n) (.block 4 (.loop (cd (bodyOf f11) [1, 1, 1, 1, 1, 1, 1, 1, 1, 0, 1, 0, 0, 1, 0, 0, 1, 1, 1, 0, 0]))) :=
    mk_loopN (O := tabL []) (root := (bodyOf f11)) (π := [1, 1, 1, 1, 1, 1, 1, 1, 1, 0, 1, 0, 0, 1, 0, 0, 1, 1, 1, 0, 0]) (id := 4) (Li := [(4, .addr), (10, .int .i64), (11, .int .u8), (12, .int .i64), (13, .sl), (14, .int .i64)]) (Lo := []) (S := (fun n x w => ref02_New_l5 K n x.1 x.2.1 x.2.2.1 x.2.2.2.1 x.2.2.2.2.1 x.2.2.2.2.2.1 w)) (body := cd (bodyOf f11) [1, 1, 1, 1, 1, 1, 1, 1, 1, 0, 1, 0, 0, 1, 0, 0, 1, 1, 1, 0, 0]) (ref02_New_Eok K) (ref02_New_Rok K) rfl (Orc.nil _ _ _) (by kernel_rfl) (fun _ _ => by kernel_rfl) (fun _ _ _ => by kernel_rfl) n
noncomputable def ref02_New_l5_se (K : Nat) : SE := stmtN [(4, .addr), (10, .int .i64), (11, .int .u8), (12, .int .i64), (13, .sl), (14, .int .i64)] [] [(14, 15), (264, 294)] (fun x w => ref02_New_l5 K K x.1 x.2.1 x.2.2.1 x.2.2.2.1 x.2.2.2.2.1 x.2.2.2.2.2.1 w)
theorem ref02_New_l5_se_ok (K : Nat) (R : Rg) (h : subRB [(14, 15), (264, 294)] R = true) : (ref02_New_l5_se K).Ok prog R (.block 4 (.loop (cd (bodyOf f11) [1, 1, 1, 1, 1, 1, 1, 1, 1, 0, 1, 0, 0, 1, 0, 0, 1, 1, 1, 0, 0]))) := stmtN_ok (Li := [(4, .addr), (10, .int .i64), (11, .int .u8), (12, .int .i64), (13, .sl), (14, .int .i64)]) (Lo := []) (S := (fun x w => ref02_New_l5 K K x.1 x.2.1 x.2.2.1 x.2.2.2.1 x.2.2.2.2.1 x.2.2.2.2.2.1 w)) (ref02_New_l5_ok K K) (subR_of h)
theorem ref02_New_l2_ok (K : Nat) (n : Nat) : StmtNOk prog [(4, .addr), (10, .int .i64), (11, .int .u8), (12, .int .i64)] [] [(11, 15), (139, 294)] ((fun n x w => ref02_New_l2 K n x.1 x.2.1 x.2.2.1 x.2.2.2.1 w) n) (.block 2 (.loop (cd (bodyOf f11) [1, 1, 1, 1, 1, 1, 1, 1, 1, 0, 1, 0, 0]))) :=
    mk_loopN (O := tabL [([1, 1, 1, 1, 1, 1, 1, 1, 1, 0, 1, 0, 0, 1, 0, 0, 1, 0, 1], ref02_New_s3_se K), ([1, 1, 1, 1, 1, 1, 1, 1, 1, 0, 1, 0, 0, 1, 0, 0, 1, 0, 1, 1, 0], ref02_New_s4_se K), ([1, 1, 1, 1, 1, 1, 1, 1, 1, 0, 1, 0, 0, 1, 0, 0, 1, 1, 1], ref02_New_l5_se K)]) (root := (bodyOf f11)) (π := [1, 1, 1, 1, 1, 1, 1, 1, 1, 0, 1, 0, 0]) (id := 2) (Li := [(4, .addr), (10, .int .i64), (11, .int .u8), (12, .int .i64)]) (Lo := []) (S := (fun n x w => ref02_New_l2 K n x.1 x.2.1 x.2.2.1 x.2.2.2.1 w)) (body := cd (bodyOf f11) [1, 1, 1, 1, 1, 1, 1, 1, 1, 0, 1, 0, 0]) (ref02_New_Eok K) (ref02_New_Rok K) rfl (Orc.cons (by kernel_rfl) (ref02_New_s3_se_ok K [(11, 15), (139, 294)] (by kernel_rfl)) (Orc.cons (by kernel_rfl) (ref02_New_s4_se_ok K [(11, 15), (139, 294)] (by kernel_rfl)) (Orc.cons (by kernel_rfl) (ref02_New_l5_se_ok K [(11, 15), (139, 294)] (by kernel_rfl)) (Orc.nil _ _ _)))) (by kernel_rfl) (fun _ _ => by kernel_rfl) (fun _ _ _ => by kernel_rfl) n
noncomputable def ref02_New_l2_se (K : Nat) : SE := stmtN [(4, .addr), (10, .int .i64), (11, .int .u8), (12, .int .i64)] [] [(11, 15), (139, 294)] (fun x w => ref02_New_l2 K K x.1 x.2.1 x.2.2.1 x.2.2.2.1 w)
theorem ref02_New_l2_se_ok (K : Nat) (R : Rg) (h : subRB [(11, 15), (139, 294)] R = true) : (ref02_New_l2_se K).Ok prog R (.block 2 (.loop (cd (bodyOf f11) [1, 1, 1, 1, 1, 1, 1, 1, 1, 0, 1, 0, 0]))) := stmtN_ok (Li := [(4, .addr), (10, .int .i64), (11, .int .u8), (12, .int .i64)]) (Lo := []) (S := (fun x w => ref02_New_l2 K K x.1 x.2.1 x.2.2.1 x.2.2.2.1 w)) (ref02_New_l2_ok K K) (subR_of h)
theorem ref02_New_facts : FunFacts prog 11 f11 (bodyOf f11) [(0, .sl)] [(0, 295)] := ⟨func11, by kernel_rfl, by kernel_rfl, by kernel_rfl, by kernel_rfl, by kernel_rfl⟩
theorem ref02_New_calls (K : Nat) (x : TT [(0, .sl)]) (w : World) (y : TR [.ptr, .int .i64]) (w2 : World) (h : ref02_New K x.1 w = some (y, w2)) : Calls prog 11 (encA [(0, .sl)] x).toArray w (fun e w3 => e = .returned (resV (encR [.ptr, .int .i64] y)) ∧ w3 = w2) :=
    mk_fun (O := tabL [([1, 0, 0], ref02_New_s0_se K), ([1, 1, 1, 1, 0, 1], ref02_New_l1_se K), ([1, 1, 1, 1, 1, 1, 1, 1, 1, 0, 1], ref02_New_l2_se K), ([1, 1, 1, 1, 1, 1, 1, 1, 1, 0, 1, 0, 0, 1, 0, 0, 1, 0, 1], ref02_New_s3_se K), ([1, 1, 1, 1, 1, 1, 1, 1, 1, 0, 1, 0, 0, 1, 0, 0, 1, 0, 1, 1, 0], ref02_New_s4_se K), ([1, 1, 1, 1, 1, 1, 1, 1, 1, 0, 1, 0, 0, 1, 0, 0, 1, 1, 1], ref02_New_l5_se K)]) (Lp := [(0, .sl)]) (Rt := [.ptr, .int .i64]) (S := (fun x w => ref02_New K x.1 w)) (ref02_New_Eok K) (ref02_New_Rok K) rfl ref02_New_facts (Orc.cons (by kernel_rfl) (ref02_New_s0_se_ok K [(0, 295)] (by kernel_rfl)) (Orc.cons (by kernel_rfl) (ref02_New_l1_se_ok K [(0, 295)] (by kernel_rfl)) (Orc.cons (by kernel_rfl) (ref02_New_l2_se_ok K [(0, 295)] (by kernel_rfl)) (Orc.cons (by kernel_rfl) (ref02_New_s3_se_ok K [(0, 295)] (by kernel_rfl)) (Orc.cons (by kernel_rfl) (ref02_New_s4_se_ok K [(0, 295)] (by kernel_rfl)) (Orc.cons (by kernel_rfl) (ref02_New_l5_se_ok K [(0, 295)] (by kernel_rfl)) (Orc.nil _ _ _))))))) (fun _ _ => by kernel_rfl) x w y w2 h
noncomputable def ref02_New_ce (K : Nat) : CE := funE [(0, .sl)] [.ptr, .int .i64] (fun x w => ref02_New K x.1 w)
theorem ref02_New_ok (K : Nat) : (ref02_New_ce K).Ok prog 11 := funE_ok (Rt := [.ptr, .int .i64]) (S := (fun x w => ref02_New K x.1 w)) ref02_New_facts fun x w y w2 h => ref02_New_calls K x w y w2 h

noncomputable def law02_num_R : List (Nat × RE) := []
theorem law02_num_Rok : REnv.Ok prog (tab (law02_num_R)) := (REnv.nil _)
/-- coffer/cofferlaw02.num -/
noncomputable def law02_num (e0 : Int) : Option (Int × Unit) :=
  some (e0, ())
theorem law02_num_facts : FunFacts prog 12 f12 (bodyOf f12) [(0, .int .i64)] [(0, 4)] := ⟨func12, by kernel_rfl, by kernel_rfl, by kernel_rfl, by kernel_rfl, by kernel_rfl⟩
theorem law02_num_calls (x : TT [(0, .int .i64)]) (w : World) (y : TR [.int .i64]) (h : law02_num x.1 = some y) : Calls prog 12 (encA [(0, .int .i64)] x).toArray w (fun e w3 => e = .returned (resV (encR [.int .i64] y)) ∧ w3 = w) :=
    mk_funQ (O := tabL []) (Lp := [(0, .int .i64)]) (Rt := [.int .i64]) (S := (fun x w => law02_num x.1)) (law02_num_Rok) law02_num_facts (OrcQ.nil _ _ _) (fun _ _ => by kernel_rfl) x w y h
noncomputable def law02_num_re : RE := funR [(0, .int .i64)] [.int .i64] (fun x w => law02_num x.1)
theorem law02_num_ok : (law02_num_re).Ok prog 12 := funR_ok (Rt := [.int .i64]) (S := (fun x w => law02_num x.1)) law02_num_facts fun x w y h => law02_num_calls x w y h

noncomputable def book_SameBytes_E (K : Nat) : List (Nat × CE) := []
theorem book_SameBytes_Eok (K : Nat) : Env.Ok prog (tab (book_SameBytes_E K)) := (Env.nil _)
noncomputable def book_SameBytes_R (K : Nat) : List (Nat × RE) := []
theorem book_SameBytes_Rok (K : Nat) : REnv.Ok prog (tab (book_SameBytes_R K)) := (REnv.nil _)
noncomputable def book_SameBytes_l0_b (K : Nat) (rec : Sl → Sl → Int → World → Option ((Out (Unit) (Bool × Unit)) × World)) (a0 : Sl) (b1 : Sl) (i5 : Int) (w : World) : Option ((Out (Unit) (Bool × Unit)) × World) :=
  if (decide (i5 < ((a0.len : Nat) : Int))) = true then ((a0.a).bind fun p_1 =>
  if (0 : Int) ≤ i5 ∧ i5 < ((a0.len : Nat) : Int) then ((b1.a).bind fun p_2 =>
  if (0 : Int) ≤ i5 ∧ i5 < ((b1.len : Nat) : Int) then ((ldI .u8 (p_1.add ((Int.toNat i5) * 1)) w.drew).bind fun v_3 =>
  (ldI .u8 (p_2.add ((Int.toNat i5) * 1)) w.drew).bind fun v_4 =>
  if (v_3 != v_4) = true then (some (.ret (false, ()), w.drew)) else (rec a0 b1 (IntKind.i64.wrap (i5 + 1)) w.drew)) else none) else none) else (some (.norm (), w))
noncomputable def book_SameBytes_l0 (K : Nat) (n : Nat) : Sl → Sl → Int → World → Option ((Out (Unit) (Bool × Unit)) × World) := iter (fun _ _ _ _ => none) (book_SameBytes_l0_b K) n
/-- coffer/cofferbook.SameBytes -/
noncomputable def book_SameBytes (K : Nat) (a0 : Sl) (b1 : Sl) (w : World) : Option ((Bool × Unit) × World) :=
  if (((a0.len : Nat) : Int) != ((b1.len : Nat) : Int)) = true then (some ((false, ()), w)) else (bnd (book_SameBytes_l0 K K a0 b1 0 w) fun y_5 w_6 =>
  (match y_5 with
  | .norm z_7n => (some ((true, ()), w_6))
  | .ret z_7r => (some ((z_7r.1, ()), w_6))))
theorem book_SameBytes_l0_ok (K : Nat) (n : Nat) : StmtOk prog [(0, .sl), (1, .sl), (5, .int .i64)] [] [(4, .bool)] [(4, 6), (11, 26)] ((fun n x w => book_SameBytes_l0 K n x.1 x.2.1 x.2.2.1 w) n) (.block 0 (.loop (cd (bodyOf f31) [1, 1, 0, 1, 0, 0]))) :=
    mk_loop (O := tabL []) (root := (bodyOf f31)) (π := [1, 1, 0, 1, 0, 0]) (id := 0) (Li := [(0, .sl), (1, .sl), (5, .int .i64)]) (Lo := []) (Lr := [(4, .bool)]) (S := (fun n x w => book_SameBytes_l0 K n x.1 x.2.1 x.2.2.1 w)) (body := cd (bodyOf f31) [1, 1, 0, 1, 0, 0]) (book_SameBytes_Eok K) (book_SameBytes_Rok K) rfl (Orc.nil _ _ _) (by kernel_rfl) (fun _ _ => by kernel_rfl) (fun _ _ _ => by kernel_rfl) n
noncomputable def book_SameBytes_l0_se (K : Nat) : SE := stmt [(0, .sl), (1, .sl), (5, .int .i64)] [] [(4, .bool)] [(4, 6), (11, 26)] (fun x w => book_SameBytes_l0 K K x.1 x.2.1 x.2.2.1 w)
theorem book_SameBytes_l0_se_ok (K : Nat) (R : Rg) (h : subRB [(4, 6), (11, 26)] R = true) : (book_SameBytes_l0_se K).Ok prog R (.block 0 (.loop (cd (bodyOf f31) [1, 1, 0, 1, 0, 0]))) := stmt_ok (Li := [(0, .sl), (1, .sl), (5, .int .i64)]) (Lo := []) (Lr := [(4, .bool)]) (S := (fun x w => book_SameBytes_l0 K K x.1 x.2.1 x.2.2.1 w)) (book_SameBytes_l0_ok K K) (subR_of h)
theorem book_SameBytes_facts : FunFacts prog 31 f31 (bodyOf f31) [(0, .sl), (1, .sl)] [(0, 26)] := ⟨func31, by kernel_rfl, by kernel_rfl, by kernel_rfl, by kernel_rfl, by kernel_rfl⟩
theorem book_SameBytes_calls (K : Nat) (x : TT [(0, .sl), (1, .sl)]) (w : World) (y : TR [.bool]) (w2 : World) (h : book_SameBytes K x.1 x.2.1 w = some (y, w2)) : Calls prog 31 (encA [(0, .sl), (1, .sl)] x).toArray w (fun e w3 => e = .returned (resV (encR [.bool] y)) ∧ w3 = w2) :=
    mk_fun (O := tabL [([1, 1, 0, 1], book_SameBytes_l0_se K)]) (Lp := [(0, .sl), (1, .sl)]) (Rt := [.bool]) (S := (fun x w => book_SameBytes K x.1 x.2.1 w)) (book_SameBytes_Eok K) (book_SameBytes_Rok K) rfl book_SameBytes_facts (Orc.cons (by kernel_rfl) (book_SameBytes_l0_se_ok K [(0, 26)] (by kernel_rfl)) (Orc.nil _ _ _)) (fun _ _ => by kernel_rfl) x w y w2 h
noncomputable def book_SameBytes_ce (K : Nat) : CE := funE [(0, .sl), (1, .sl)] [.bool] (fun x w => book_SameBytes K x.1 x.2.1 w)
theorem book_SameBytes_ok (K : Nat) : (book_SameBytes_ce K).Ok prog 31 := funE_ok (Rt := [.bool]) (S := (fun x w => book_SameBytes K x.1 x.2.1 w)) book_SameBytes_facts fun x w y w2 h => book_SameBytes_calls K x w y w2 h

end Go.Sh
