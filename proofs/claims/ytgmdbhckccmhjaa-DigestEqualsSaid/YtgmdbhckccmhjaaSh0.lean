/- What functions of the program do, as Lean functions; that the machine does just that. Printed by shal.py, a program of this claim's writer. -/
import Derived.Test.YtgmdbhckccmhjaaFwG
import Derived.Test.YtgmdbhckccmhjaaProg
set_option maxRecDepth 100000
set_option linter.unusedVariables false
namespace Go.Sh
open Go.Fw Go.Proofs.Try
def str0 : ByteArray := ⟨#[]⟩
def str1 : ByteArray := ⟨#[48, 49, 50, 51, 52, 53, 54, 55, 56, 57, 97, 98, 99, 100, 101, 102]⟩

noncomputable def law01_num_R : List (Nat × RE) := []
theorem law01_num_Rok : REnv.Ok prog (tab (law01_num_R)) := (REnv.nil _)
/-- coffer/cofferlaw01.num -/
noncomputable def law01_num (e0 : Int) : Option (Int × Unit) :=
  some (e0, ())
theorem law01_num_facts : FunFacts prog 7 f7 (bodyOf f7) [(0, .int .i64)] [(0, 4)] := ⟨func7, by kernel_rfl, by kernel_rfl, by kernel_rfl, by kernel_rfl, by kernel_rfl⟩
theorem law01_num_calls (x : TT [(0, .int .i64)]) (w : World) (y : TR [.int .i64]) (h : law01_num x.1 = some y) : Calls prog 7 (encA [(0, .int .i64)] x).toArray w (fun e w3 => e = .returned (resV (encR [.int .i64] y)) ∧ w3 = w) :=
    mk_funQ (O := tabL []) (Lp := [(0, .int .i64)]) (Rt := [.int .i64]) (S := (fun x w => law01_num x.1)) (law01_num_Rok) law01_num_facts (OrcQ.nil _ _ _) (fun _ _ => by kernel_rfl) x w y h
noncomputable def law01_num_re : RE := funR [(0, .int .i64)] [.int .i64] (fun x w => law01_num x.1)
theorem law01_num_ok : (law01_num_re).Ok prog 7 := funR_ok (Rt := [.int .i64]) (S := (fun x w => law01_num x.1)) law01_num_facts fun x w y h => law01_num_calls x w y h

noncomputable def digest_Equal_E (K : Nat) : List (Nat × CE) := []
theorem digest_Equal_Eok (K : Nat) : Env.Ok prog (tab (digest_Equal_E K)) := (Env.nil _)
noncomputable def digest_Equal_R (K : Nat) : List (Nat × RE) := []
theorem digest_Equal_Rok (K : Nat) : REnv.Ok prog (tab (digest_Equal_R K)) := (REnv.nil _)
noncomputable def digest_Equal_l0_b (K : Nat) (rec : Sl → Sl → Int → Int → Int → World → Option ((Int × Unit) × World)) (a0 : Sl) (b1 : Sl) (unlike5 : Int) (a13 : Int) (a14 : Int) (w : World) : Option ((Int × Unit) × World) :=
  if (decide (a14 < a13)) = true then ((a0.a).bind fun p_1 =>
  if (0 : Int) ≤ a14 ∧ a14 < ((a0.len : Nat) : Int) then ((b1.a).bind fun p_2 =>
  if (0 : Int) ≤ a14 ∧ a14 < ((b1.len : Nat) : Int) then ((ldI .u8 (p_1.add (a14.toNat * 1)) w.drew).bind fun v_3 =>
  (ldI .u8 (p_2.add (a14.toNat * 1)) w.drew).bind fun v_4 =>
  rec a0 b1 (bits .or .u8 unlike5 (bits .xor .u8 v_3 v_4)) a13 (IntKind.i64.wrap (a14 + 1)) w.drew) else none) else none) else (some ((unlike5, ()), w))
noncomputable def digest_Equal_l0 (K : Nat) (n : Nat) : Sl → Sl → Int → Int → Int → World → Option ((Int × Unit) × World) := iter (fun _ _ _ _ _ _ => none) (digest_Equal_l0_b K) n
/-- coffer/digest.Equal -/
noncomputable def digest_Equal (K : Nat) (a0 : Sl) (b1 : Sl) (w : World) : Option ((Bool × Unit) × World) :=
  if (((a0.len : Nat) : Int) != ((b1.len : Nat) : Int)) = true then (some ((false, ()), w)) else (bnd (digest_Equal_l0 K K a0 b1 0 ((a0.len : Nat) : Int) 0 w) fun y_5 w_6 =>
  some (((y_5.1 == 0), ()), w_6))
theorem digest_Equal_l0_ok (K : Nat) (n : Nat) : StmtNOk prog [(0, .sl), (1, .sl), (5, .int .u8), (13, .int .i64), (14, .int .i64)] [(5, .int .u8)] [(5, 7), (14, 29)] ((fun n x w => digest_Equal_l0 K n x.1 x.2.1 x.2.2.1 x.2.2.2.1 x.2.2.2.2.1 w) n) (.block 0 (.loop (cd (bodyOf f10) [1, 1, 1, 0, 1, 0, 0]))) :=
    mk_loopN (O := tabL []) (root := (bodyOf f10)) (π := [1, 1, 1, 0, 1, 0, 0]) (id := 0) (Li := [(0, .sl), (1, .sl), (5, .int .u8), (13, .int .i64), (14, .int .i64)]) (Lo := [(5, .int .u8)]) (S := (fun n x w => digest_Equal_l0 K n x.1 x.2.1 x.2.2.1 x.2.2.2.1 x.2.2.2.2.1 w)) (body := cd (bodyOf f10) [1, 1, 1, 0, 1, 0, 0]) (digest_Equal_Eok K) (digest_Equal_Rok K) rfl (Orc.nil _ _ _) (by kernel_rfl) (fun _ _ => by kernel_rfl) (fun _ _ _ => by kernel_rfl) n
noncomputable def digest_Equal_l0_se (K : Nat) : SE := stmtN [(0, .sl), (1, .sl), (5, .int .u8), (13, .int .i64), (14, .int .i64)] [(5, .int .u8)] [(5, 7), (14, 29)] (fun x w => digest_Equal_l0 K K x.1 x.2.1 x.2.2.1 x.2.2.2.1 x.2.2.2.2.1 w)
theorem digest_Equal_l0_se_ok (K : Nat) (R : Rg) (h : subRB [(5, 7), (14, 29)] R = true) : (digest_Equal_l0_se K).Ok prog R (.block 0 (.loop (cd (bodyOf f10) [1, 1, 1, 0, 1, 0, 0]))) := stmtN_ok (Li := [(0, .sl), (1, .sl), (5, .int .u8), (13, .int .i64), (14, .int .i64)]) (Lo := [(5, .int .u8)]) (S := (fun x w => digest_Equal_l0 K K x.1 x.2.1 x.2.2.1 x.2.2.2.1 x.2.2.2.2.1 w)) (digest_Equal_l0_ok K K) (subR_of h)
theorem digest_Equal_facts : FunFacts prog 10 f10 (bodyOf f10) [(0, .sl), (1, .sl)] [(0, 31)] := ⟨func10, by kernel_rfl, by kernel_rfl, by kernel_rfl, by kernel_rfl, by kernel_rfl⟩
theorem digest_Equal_calls (K : Nat) (x : TT [(0, .sl), (1, .sl)]) (w : World) (y : TR [.bool]) (w2 : World) (h : digest_Equal K x.1 x.2.1 w = some (y, w2)) : Calls prog 10 (encA [(0, .sl), (1, .sl)] x).toArray w (fun e w3 => e = .returned (resV (encR [.bool] y)) ∧ w3 = w2) :=
    mk_fun (O := tabL [([1, 1, 1, 0, 1], digest_Equal_l0_se K)]) (Lp := [(0, .sl), (1, .sl)]) (Rt := [.bool]) (S := (fun x w => digest_Equal K x.1 x.2.1 w)) (digest_Equal_Eok K) (digest_Equal_Rok K) rfl digest_Equal_facts (Orc.cons (by kernel_rfl) (digest_Equal_l0_se_ok K [(0, 31)] (by kernel_rfl)) (Orc.nil _ _ _)) (fun _ _ => by kernel_rfl) x w y w2 h
noncomputable def digest_Equal_ce (K : Nat) : CE := funE [(0, .sl), (1, .sl)] [.bool] (fun x w => digest_Equal K x.1 x.2.1 w)
theorem digest_Equal_ok (K : Nat) : (digest_Equal_ce K).Ok prog 10 := funE_ok (Rt := [.bool]) (S := (fun x w => digest_Equal K x.1 x.2.1 w)) digest_Equal_facts fun x w y w2 h => digest_Equal_calls K x w y w2 h

noncomputable def book_SameBytes_E (K : Nat) : List (Nat × CE) := []
theorem book_SameBytes_Eok (K : Nat) : Env.Ok prog (tab (book_SameBytes_E K)) := (Env.nil _)
noncomputable def book_SameBytes_R (K : Nat) : List (Nat × RE) := []
theorem book_SameBytes_Rok (K : Nat) : REnv.Ok prog (tab (book_SameBytes_R K)) := (REnv.nil _)
noncomputable def book_SameBytes_l0_b (K : Nat) (rec : Sl → Sl → Int → World → Option ((Out (Unit) (Bool × Unit)) × World)) (a0 : Sl) (b1 : Sl) (i5 : Int) (w : World) : Option ((Out (Unit) (Bool × Unit)) × World) :=
  if (decide (i5 < ((a0.len : Nat) : Int))) = true then ((a0.a).bind fun p_1 =>
  if (0 : Int) ≤ i5 ∧ i5 < ((a0.len : Nat) : Int) then ((b1.a).bind fun p_2 =>
  if (0 : Int) ≤ i5 ∧ i5 < ((b1.len : Nat) : Int) then ((ldI .u8 (p_1.add (i5.toNat * 1)) w.drew).bind fun v_3 =>
  (ldI .u8 (p_2.add (i5.toNat * 1)) w.drew).bind fun v_4 =>
  if (v_3 != v_4) = true then (some (.ret (false, ()), w.drew)) else (rec a0 b1 (IntKind.i64.wrap (i5 + 1)) w.drew)) else none) else none) else (some (.norm (), w))
noncomputable def book_SameBytes_l0 (K : Nat) (n : Nat) : Sl → Sl → Int → World → Option ((Out (Unit) (Bool × Unit)) × World) := iter (fun _ _ _ _ => none) (book_SameBytes_l0_b K) n
/-- coffer/cofferbook.SameBytes -/
noncomputable def book_SameBytes (K : Nat) (a0 : Sl) (b1 : Sl) (w : World) : Option ((Bool × Unit) × World) :=
  if (((a0.len : Nat) : Int) != ((b1.len : Nat) : Int)) = true then (some ((false, ()), w)) else (bnd (book_SameBytes_l0 K K a0 b1 0 w) fun y_5 w_6 =>
  (match y_5 with
  | .norm z_7n => (some ((true, ()), w_6))
  | .ret z_7r => (some ((z_7r.1, ()), w_6))))
theorem book_SameBytes_l0_ok (K : Nat) (n : Nat) : StmtOk prog [(0, .sl), (1, .sl), (5, .int .i64)] [] [(4, .bool)] [(4, 6), (11, 26)] ((fun n x w => book_SameBytes_l0 K n x.1 x.2.1 x.2.2.1 w) n) (.block 0 (.loop (cd (bodyOf f9) [1, 1, 0, 1, 0, 0]))) :=
    mk_loop (O := tabL []) (root := (bodyOf f9)) (π := [1, 1, 0, 1, 0, 0]) (id := 0) (Li := [(0, .sl), (1, .sl), (5, .int .i64)]) (Lo := []) (Lr := [(4, .bool)]) (S := (fun n x w => book_SameBytes_l0 K n x.1 x.2.1 x.2.2.1 w)) (body := cd (bodyOf f9) [1, 1, 0, 1, 0, 0]) (book_SameBytes_Eok K) (book_SameBytes_Rok K) rfl (Orc.nil _ _ _) (by kernel_rfl) (fun _ _ => by kernel_rfl) (fun _ _ _ => by kernel_rfl) n
noncomputable def book_SameBytes_l0_se (K : Nat) : SE := stmt [(0, .sl), (1, .sl), (5, .int .i64)] [] [(4, .bool)] [(4, 6), (11, 26)] (fun x w => book_SameBytes_l0 K K x.1 x.2.1 x.2.2.1 w)
theorem book_SameBytes_l0_se_ok (K : Nat) (R : Rg) (h : subRB [(4, 6), (11, 26)] R = true) : (book_SameBytes_l0_se K).Ok prog R (.block 0 (.loop (cd (bodyOf f9) [1, 1, 0, 1, 0, 0]))) := stmt_ok (Li := [(0, .sl), (1, .sl), (5, .int .i64)]) (Lo := []) (Lr := [(4, .bool)]) (S := (fun x w => book_SameBytes_l0 K K x.1 x.2.1 x.2.2.1 w)) (book_SameBytes_l0_ok K K) (subR_of h)
theorem book_SameBytes_facts : FunFacts prog 9 f9 (bodyOf f9) [(0, .sl), (1, .sl)] [(0, 26)] := ⟨func9, by kernel_rfl, by kernel_rfl, by kernel_rfl, by kernel_rfl, by kernel_rfl⟩
theorem book_SameBytes_calls (K : Nat) (x : TT [(0, .sl), (1, .sl)]) (w : World) (y : TR [.bool]) (w2 : World) (h : book_SameBytes K x.1 x.2.1 w = some (y, w2)) : Calls prog 9 (encA [(0, .sl), (1, .sl)] x).toArray w (fun e w3 => e = .returned (resV (encR [.bool] y)) ∧ w3 = w2) :=
    mk_fun (O := tabL [([1, 1, 0, 1], book_SameBytes_l0_se K)]) (Lp := [(0, .sl), (1, .sl)]) (Rt := [.bool]) (S := (fun x w => book_SameBytes K x.1 x.2.1 w)) (book_SameBytes_Eok K) (book_SameBytes_Rok K) rfl book_SameBytes_facts (Orc.cons (by kernel_rfl) (book_SameBytes_l0_se_ok K [(0, 26)] (by kernel_rfl)) (Orc.nil _ _ _)) (fun _ _ => by kernel_rfl) x w y w2 h
noncomputable def book_SameBytes_ce (K : Nat) : CE := funE [(0, .sl), (1, .sl)] [.bool] (fun x w => book_SameBytes K x.1 x.2.1 w)
theorem book_SameBytes_ok (K : Nat) : (book_SameBytes_ce K).Ok prog 9 := funE_ok (Rt := [.bool]) (S := (fun x w => book_SameBytes K x.1 x.2.1 w)) book_SameBytes_facts fun x w y w2 h => book_SameBytes_calls K x w y w2 h

noncomputable def ref01_digit_R : List (Nat × RE) := []
theorem ref01_digit_Rok : REnv.Ok prog (tab (ref01_digit_R)) := (REnv.nil _)
/-- coffer/cofferref01.digit -/
noncomputable def ref01_digit (c0 : Int) : Option (Int × Unit) :=
  if (decide (c0 ≥ 48)) = true then (if (decide (c0 ≤ 57)) = true then (some ((IntKind.i64.wrap ((IntKind.i64.wrap c0) - 48)), ())) else (if (decide (c0 ≥ 97)) = true then (if (decide (c0 ≤ 102)) = true then (some ((IntKind.i64.wrap ((IntKind.i64.wrap ((IntKind.i64.wrap c0) - 97)) + 10)), ())) else (if (decide (c0 ≥ 65)) = true then (if (decide (c0 ≤ 70)) = true then (some ((IntKind.i64.wrap ((IntKind.i64.wrap ((IntKind.i64.wrap c0) - 65)) + 10)), ())) else (some ((-1), ()))) else (some ((-1), ())))) else (if (decide (c0 ≥ 65)) = true then (if (decide (c0 ≤ 70)) = true then (some ((IntKind.i64.wrap ((IntKind.i64.wrap ((IntKind.i64.wrap c0) - 65)) + 10)), ())) else (some ((-1), ()))) else (some ((-1), ()))))) else (if (decide (c0 ≥ 97)) = true then (if (decide (c0 ≤ 102)) = true then (some ((IntKind.i64.wrap ((IntKind.i64.wrap ((IntKind.i64.wrap c0) - 97)) + 10)), ())) else (if (decide (c0 ≥ 65)) = true then (if (decide (c0 ≤ 70)) = true then (some ((IntKind.i64.wrap ((IntKind.i64.wrap ((IntKind.i64.wrap c0) - 65)) + 10)), ())) else (some ((-1), ()))) else (some ((-1), ())))) else (if (decide (c0 ≥ 65)) = true then (if (decide (c0 ≤ 70)) = true then (some ((IntKind.i64.wrap ((IntKind.i64.wrap ((IntKind.i64.wrap c0) - 65)) + 10)), ())) else (some ((-1), ()))) else (some ((-1), ()))))
theorem ref01_digit_facts : FunFacts prog 28 f28 (bodyOf f28) [(0, .int .u8)] [(0, 35)] := ⟨func28, by kernel_rfl, by kernel_rfl, by kernel_rfl, by kernel_rfl, by kernel_rfl⟩
theorem ref01_digit_calls (x : TT [(0, .int .u8)]) (w : World) (y : TR [.int .i64]) (h : ref01_digit x.1 = some y) : Calls prog 28 (encA [(0, .int .u8)] x).toArray w (fun e w3 => e = .returned (resV (encR [.int .i64] y)) ∧ w3 = w) :=
    mk_funQ (O := tabL []) (Lp := [(0, .int .u8)]) (Rt := [.int .i64]) (S := (fun x w => ref01_digit x.1)) (ref01_digit_Rok) ref01_digit_facts (OrcQ.nil _ _ _) (fun _ _ => by kernel_rfl) x w y h
noncomputable def ref01_digit_re : RE := funR [(0, .int .u8)] [.int .i64] (fun x w => ref01_digit x.1)
theorem ref01_digit_ok : (ref01_digit_re).Ok prog 28 := funR_ok (Rt := [.int .i64]) (S := (fun x w => ref01_digit x.1)) ref01_digit_facts fun x w y h => ref01_digit_calls x w y h

noncomputable def ref01_at_R : List (Nat × RE) := []
theorem ref01_at_Rok : REnv.Ok prog (tab (ref01_at_R)) := (REnv.nil _)
/-- coffer/cofferref01.at -/
noncomputable def ref01_at (b0 : Sl) (i1 : Int) (w : World) : Option (Int × Unit) :=
  if (decide (i1 < ((b0.len : Nat) : Int))) = true then ((b0.a).bind fun p_1 =>
  if (0 : Int) ≤ i1 ∧ i1 < ((b0.len : Nat) : Int) then ((ldI .u8 (p_1.add (i1.toNat * 1)) w).bind fun v_2 =>
  some ((IntKind.i64.wrap v_2), ())) else none) else (some (0, ()))
theorem ref01_at_facts : FunFacts prog 26 f26 (bodyOf f26) [(0, .sl), (1, .int .i64)] [(0, 14)] := ⟨func26, by kernel_rfl, by kernel_rfl, by kernel_rfl, by kernel_rfl, by kernel_rfl⟩
theorem ref01_at_calls (x : TT [(0, .sl), (1, .int .i64)]) (w : World) (y : TR [.int .i64]) (h : ref01_at x.1 x.2.1 w = some y) : Calls prog 26 (encA [(0, .sl), (1, .int .i64)] x).toArray w (fun e w3 => e = .returned (resV (encR [.int .i64] y)) ∧ w3 = w) :=
    mk_funQ (O := tabL []) (Lp := [(0, .sl), (1, .int .i64)]) (Rt := [.int .i64]) (S := (fun x w => ref01_at x.1 x.2.1 w)) (ref01_at_Rok) ref01_at_facts (OrcQ.nil _ _ _) (fun _ _ => by kernel_rfl) x w y h
noncomputable def ref01_at_re : RE := funR [(0, .sl), (1, .int .i64)] [.int .i64] (fun x w => ref01_at x.1 x.2.1 w)
theorem ref01_at_ok : (ref01_at_re).Ok prog 26 := funR_ok (Rt := [.int .i64]) (S := (fun x w => ref01_at x.1 x.2.1 w)) ref01_at_facts fun x w y h => ref01_at_calls x w y h

noncomputable def law01_small_E (K : Nat) : List (Nat × CE) := []
theorem law01_small_Eok (K : Nat) : Env.Ok prog (tab (law01_small_E K)) := (Env.nil _)
noncomputable def law01_small_R (K : Nat) : List (Nat × RE) := []
theorem law01_small_Rok (K : Nat) : REnv.Ok prog (tab (law01_small_R K)) := (REnv.nil _)
noncomputable def law01_small_l0_b (K : Nat) (rec : ByteArray → Sl → Int → World → Option ((Sl × Unit) × World)) (s0 : ByteArray) (out3 : Sl) (i4 : Int) (w : World) : Option ((Sl × Unit) × World) :=
  if (decide (i4 < ((s0.size : Nat) : Int))) = true then (if (0 : Int) ≤ i4 then ((s0[i4.toNat]?).bind fun b_1 =>
  if (decide (((b_1.toNat : Nat) : Int) ≥ 65)) = true then (if (decide (((b_1.toNat : Nat) : Int) ≤ 70)) = true then (bnd (bldS prog 25 1 #[(0, (.int .u8 (IntKind.u8.wrap (((b_1.toNat : Nat) : Int) + 32))))] w) fun s_2 w_3 =>
  bnd (apd prog 25 25 (.slice out3.a out3.len out3.cap) (.slice s_2.a s_2.len s_2.cap) w_3) fun s_4 w_5 =>
  rec s0 s_4 (IntKind.i64.wrap (i4 + 1)) w_5) else (bnd (bldS prog 25 1 #[(0, (.int .u8 ((b_1.toNat : Nat) : Int)))] w) fun s_6 w_7 =>
  bnd (apd prog 25 25 (.slice out3.a out3.len out3.cap) (.slice s_6.a s_6.len s_6.cap) w_7) fun s_8 w_9 =>
  rec s0 s_8 (IntKind.i64.wrap (i4 + 1)) w_9)) else (bnd (bldS prog 25 1 #[(0, (.int .u8 ((b_1.toNat : Nat) : Int)))] w) fun s_10 w_11 =>
  bnd (apd prog 25 25 (.slice out3.a out3.len out3.cap) (.slice s_10.a s_10.len s_10.cap) w_11) fun s_12 w_13 =>
  rec s0 s_12 (IntKind.i64.wrap (i4 + 1)) w_13)) else none) else (some ((out3, ()), w))
noncomputable def law01_small_l0 (K : Nat) (n : Nat) : ByteArray → Sl → Int → World → Option ((Sl × Unit) × World) := iter (fun _ _ _ _ => none) (law01_small_l0_b K) n
/-- coffer/cofferlaw01.small -/
noncomputable def law01_small (K : Nat) (s0 : ByteArray) (w : World) : Option ((ByteArray × Unit) × World) :=
  bnd (law01_small_l0 K K s0 ⟨none, 0, 0⟩ 0 w) fun y_14 w_15 =>
  bnd (b2s prog y_14.1.a y_14.1.len y_14.1.cap w_15) fun c_16 w_17 =>
  some ((c_16, ()), w_17)
theorem law01_small_l0_ok (K : Nat) (n : Nat) : StmtNOk prog [(0, .str), (3, .sl), (4, .int .i64)] [(3, .sl)] [(3, 27)] ((fun n x w => law01_small_l0 K n x.1 x.2.1 x.2.2.1 w) n) (.block 0 (.loop (cd (bodyOf f16) [1, 1, 0, 1, 0, 0]))) :=
    mk_loopN (O := tabL []) (root := (bodyOf f16)) (π := [1, 1, 0, 1, 0, 0]) (id := 0) (Li := [(0, .str), (3, .sl), (4, .int .i64)]) (Lo := [(3, .sl)]) (S := (fun n x w => law01_small_l0 K n x.1 x.2.1 x.2.2.1 w)) (body := cd (bodyOf f16) [1, 1, 0, 1, 0, 0]) (law01_small_Eok K) (law01_small_Rok K) rfl (Orc.nil _ _ _) (by kernel_rfl) (fun _ _ => by kernel_rfl) (fun _ _ _ => by kernel_rfl) n
noncomputable def law01_small_l0_se (K : Nat) : SE := stmtN [(0, .str), (3, .sl), (4, .int .i64)] [(3, .sl)] [(3, 27)] (fun x w => law01_small_l0 K K x.1 x.2.1 x.2.2.1 w)
theorem law01_small_l0_se_ok (K : Nat) (R : Rg) (h : subRB [(3, 27)] R = true) : (law01_small_l0_se K).Ok prog R (.block 0 (.loop (cd (bodyOf f16) [1, 1, 0, 1, 0, 0]))) := stmtN_ok (Li := [(0, .str), (3, .sl), (4, .int .i64)]) (Lo := [(3, .sl)]) (S := (fun x w => law01_small_l0 K K x.1 x.2.1 x.2.2.1 w)) (law01_small_l0_ok K K) (subR_of h)
theorem law01_small_facts : FunFacts prog 16 f16 (bodyOf f16) [(0, .str)] [(0, 29)] := ⟨func16, by kernel_rfl, by kernel_rfl, by kernel_rfl, by kernel_rfl, by kernel_rfl⟩
theorem law01_small_calls (K : Nat) (x : TT [(0, .str)]) (w : World) (y : TR [.str]) (w2 : World) (h : law01_small K x.1 w = some (y, w2)) : Calls prog 16 (encA [(0, .str)] x).toArray w (fun e w3 => e = .returned (resV (encR [.str] y)) ∧ w3 = w2) :=
    mk_fun (O := tabL [([1, 1, 0, 1], law01_small_l0_se K)]) (Lp := [(0, .str)]) (Rt := [.str]) (S := (fun x w => law01_small K x.1 w)) (law01_small_Eok K) (law01_small_Rok K) rfl law01_small_facts (Orc.cons (by kernel_rfl) (law01_small_l0_se_ok K [(0, 29)] (by kernel_rfl)) (Orc.nil _ _ _)) (fun _ _ => by kernel_rfl) x w y w2 h
noncomputable def law01_small_ce (K : Nat) : CE := funE [(0, .str)] [.str] (fun x w => law01_small K x.1 w)
theorem law01_small_ok (K : Nat) : (law01_small_ce K).Ok prog 16 := funE_ok (Rt := [.str]) (S := (fun x w => law01_small K x.1 w)) law01_small_facts fun x w y w2 h => law01_small_calls K x w y w2 h

noncomputable def book_Bytes_E (K : Nat) : List (Nat × CE) := []
theorem book_Bytes_Eok (K : Nat) : Env.Ok prog (tab (book_Bytes_E K)) := (Env.nil _)
noncomputable def book_Bytes_R (K : Nat) : List (Nat × RE) := []
theorem book_Bytes_Rok (K : Nat) : REnv.Ok prog (tab (book_Bytes_R K)) := (REnv.nil _)
noncomputable def book_Bytes_l0_b (K : Nat) (rec : Sl → Sl → Int → World → Option ((Sl × Unit) × World)) (l0 : Sl) (c3 : Sl) (i4 : Int) (w : World) : Option ((Sl × Unit) × World) :=
  if (decide (i4 < 70)) = true then (bnd (bldS prog 25 1 #[(0, (.int .u8 (IntKind.u8.wrap (IntKind.i64.wrap (181 + i4)))))] w) fun s_3 w_4 =>
  bnd (apd prog 25 25 (.slice c3.a c3.len c3.cap) (.slice s_3.a s_3.len s_3.cap) w_4) fun s_5 w_6 =>
  rec l0 s_5 (IntKind.i64.wrap (i4 + 1)) w_6) else (some ((c3, ()), w))
noncomputable def book_Bytes_l0 (K : Nat) (n : Nat) : Sl → Sl → Int → World → Option ((Sl × Unit) × World) := iter (fun _ _ _ _ => none) (book_Bytes_l0_b K) n
/-- coffer/cofferbook.Bytes -/
noncomputable def book_Bytes (K : Nat) (l0 : Sl) (w : World) : Option ((Sl × Unit) × World) :=
  bnd (apd prog 25 25 (.slice none 0 0) (.slice l0.a l0.len l0.cap) w) fun s_1 w_2 =>
  bnd (book_Bytes_l0 K K l0 s_1 0 w_2) fun y_7 w_8 =>
  if (0 : Int) ≤ ((l0.len : Nat) : Int) ∧ ((l0.len : Nat) : Int) ≤ ((y_7.1.cap : Nat) : Int) then (some ((⟨(sla y_7.1.a 0 y_7.1.cap 1), ((((l0.len : Nat) : Int)).toNat - 0), (y_7.1.cap - 0)⟩, ()), w_8)) else none
theorem book_Bytes_l0_ok (K : Nat) (n : Nat) : StmtNOk prog [(0, .sl), (3, .sl), (4, .int .i64)] [(3, .sl)] [(3, 5), (9, 19)] ((fun n x w => book_Bytes_l0 K n x.1 x.2.1 x.2.2.1 w) n) (.block 0 (.loop (cd (bodyOf f8) [1, 1, 1, 0, 1, 0, 0]))) :=
    mk_loopN (O := tabL []) (root := (bodyOf f8)) (π := [1, 1, 1, 0, 1, 0, 0]) (id := 0) (Li := [(0, .sl), (3, .sl), (4, .int .i64)]) (Lo := [(3, .sl)]) (S := (fun n x w => book_Bytes_l0 K n x.1 x.2.1 x.2.2.1 w)) (body := cd (bodyOf f8) [1, 1, 1, 0, 1, 0, 0]) (book_Bytes_Eok K) (book_Bytes_Rok K) rfl (Orc.nil _ _ _) (by kernel_rfl) (fun _ _ => by kernel_rfl) (fun _ _ _ => by kernel_rfl) n
noncomputable def book_Bytes_l0_se (K : Nat) : SE := stmtN [(0, .sl), (3, .sl), (4, .int .i64)] [(3, .sl)] [(3, 5), (9, 19)] (fun x w => book_Bytes_l0 K K x.1 x.2.1 x.2.2.1 w)
theorem book_Bytes_l0_se_ok (K : Nat) (R : Rg) (h : subRB [(3, 5), (9, 19)] R = true) : (book_Bytes_l0_se K).Ok prog R (.block 0 (.loop (cd (bodyOf f8) [1, 1, 1, 0, 1, 0, 0]))) := stmtN_ok (Li := [(0, .sl), (3, .sl), (4, .int .i64)]) (Lo := [(3, .sl)]) (S := (fun x w => book_Bytes_l0 K K x.1 x.2.1 x.2.2.1 w)) (book_Bytes_l0_ok K K) (subR_of h)
theorem book_Bytes_facts : FunFacts prog 8 f8 (bodyOf f8) [(0, .sl)] [(0, 24)] := ⟨func8, by kernel_rfl, by kernel_rfl, by kernel_rfl, by kernel_rfl, by kernel_rfl⟩
theorem book_Bytes_calls (K : Nat) (x : TT [(0, .sl)]) (w : World) (y : TR [.sl]) (w2 : World) (h : book_Bytes K x.1 w = some (y, w2)) : Calls prog 8 (encA [(0, .sl)] x).toArray w (fun e w3 => e = .returned (resV (encR [.sl] y)) ∧ w3 = w2) :=
    mk_fun (O := tabL [([1, 1, 1, 0, 1], book_Bytes_l0_se K)]) (Lp := [(0, .sl)]) (Rt := [.sl]) (S := (fun x w => book_Bytes K x.1 w)) (book_Bytes_Eok K) (book_Bytes_Rok K) rfl book_Bytes_facts (Orc.cons (by kernel_rfl) (book_Bytes_l0_se_ok K [(0, 24)] (by kernel_rfl)) (Orc.nil _ _ _)) (fun _ _ => by kernel_rfl) x w y w2 h
noncomputable def book_Bytes_ce (K : Nat) : CE := funE [(0, .sl)] [.sl] (fun x w => book_Bytes K x.1 w)
theorem book_Bytes_ok (K : Nat) : (book_Bytes_ce K).Ok prog 8 := funE_ok (Rt := [.sl]) (S := (fun x w => book_Bytes K x.1 w)) book_Bytes_facts fun x w y w2 h => book_Bytes_calls K x w y w2 h

noncomputable def book_WholeBytes_E (K : Nat) : List (Nat × CE) := [(9, book_SameBytes_ce K)]
theorem book_WholeBytes_Eok (K : Nat) : Env.Ok prog (tab (book_WholeBytes_E K)) := (Env.cons (book_SameBytes_ok K) (Env.nil _))
noncomputable def book_WholeBytes_R (K : Nat) : List (Nat × RE) := []
theorem book_WholeBytes_Rok (K : Nat) : REnv.Ok prog (tab (book_WholeBytes_R K)) := (REnv.nil _)
noncomputable def book_WholeBytes_l0_b (K : Nat) (rec : Int → Sl → Int → World → Option ((Out (Unit) (Bool × Unit)) × World)) (n5 : Int) (all6 : Sl) (i7 : Int) (w : World) : Option ((Out (Unit) (Bool × Unit)) × World) :=
  if (decide (i7 < 70)) = true then ((all6.a).bind fun p_3 =>
  if (0 : Int) ≤ (IntKind.i64.wrap (n5 + i7)) ∧ (IntKind.i64.wrap (n5 + i7)) < ((all6.len : Nat) : Int) then ((ldI .u8 (p_3.add ((IntKind.i64.wrap (n5 + i7)).toNat * 1)) w).bind fun v_4 =>
  if (v_4 != (IntKind.u8.wrap (IntKind.i64.wrap (181 + i7)))) = true then (some (.ret (false, ()), w)) else (rec n5 all6 (IntKind.i64.wrap (i7 + 1)) w)) else none) else (some (.norm (), w))
noncomputable def book_WholeBytes_l0 (K : Nat) (n : Nat) : Int → Sl → Int → World → Option ((Out (Unit) (Bool × Unit)) × World) := iter (fun _ _ _ _ => none) (book_WholeBytes_l0_b K) n
/-- coffer/cofferbook.WholeBytes -/
noncomputable def book_WholeBytes (K : Nat) (c0 : Sl) (l1 : Sl) (w : World) : Option ((Bool × Unit) × World) :=
  bnd (book_SameBytes K c0 l1 w) fun r_1 w_2 =>
  if (!r_1.1) = true then (some ((false, ()), w_2)) else (if (0 : Int) ≤ (IntKind.i64.wrap (((c0.len : Nat) : Int) + 70)) ∧ (IntKind.i64.wrap (((c0.len : Nat) : Int) + 70)) ≤ ((c0.cap : Nat) : Int) then (bnd (book_WholeBytes_l0 K K ((c0.len : Nat) : Int) ⟨(sla c0.a 0 c0.cap 1), (((IntKind.i64.wrap (((c0.len : Nat) : Int) + 70))).toNat - 0), (c0.cap - 0)⟩ 0 w_2) fun y_5 w_6 =>
  (match y_5 with
  | .norm z_7n => (some ((true, ()), w_6))
  | .ret z_7r => (some ((z_7r.1, ()), w_6)))) else none)
theorem book_WholeBytes_l0_ok (K : Nat) (n : Nat) : StmtOk prog [(5, .int .i64), (6, .sl), (7, .int .i64)] [] [(4, .bool)] [(4, 5), (7, 8), (18, 32)] ((fun n x w => book_WholeBytes_l0 K n x.1 x.2.1 x.2.2.1 w) n) (.block 0 (.loop (cd (bodyOf f11) [1, 1, 1, 1, 0, 1, 0, 0]))) :=
    mk_loop (O := tabL []) (root := (bodyOf f11)) (π := [1, 1, 1, 1, 0, 1, 0, 0]) (id := 0) (Li := [(5, .int .i64), (6, .sl), (7, .int .i64)]) (Lo := []) (Lr := [(4, .bool)]) (S := (fun n x w => book_WholeBytes_l0 K n x.1 x.2.1 x.2.2.1 w)) (body := cd (bodyOf f11) [1, 1, 1, 1, 0, 1, 0, 0]) (book_WholeBytes_Eok K) (book_WholeBytes_Rok K) rfl (Orc.nil _ _ _) (by kernel_rfl) (fun _ _ => by kernel_rfl) (fun _ _ _ => by kernel_rfl) n
noncomputable def book_WholeBytes_l0_se (K : Nat) : SE := stmt [(5, .int .i64), (6, .sl), (7, .int .i64)] [] [(4, .bool)] [(4, 5), (7, 8), (18, 32)] (fun x w => book_WholeBytes_l0 K K x.1 x.2.1 x.2.2.1 w)
theorem book_WholeBytes_l0_se_ok (K : Nat) (R : Rg) (h : subRB [(4, 5), (7, 8), (18, 32)] R = true) : (book_WholeBytes_l0_se K).Ok prog R (.block 0 (.loop (cd (bodyOf f11) [1, 1, 1, 1, 0, 1, 0, 0]))) := stmt_ok (Li := [(5, .int .i64), (6, .sl), (7, .int .i64)]) (Lo := []) (Lr := [(4, .bool)]) (S := (fun x w => book_WholeBytes_l0 K K x.1 x.2.1 x.2.2.1 w)) (book_WholeBytes_l0_ok K K) (subR_of h)
theorem book_WholeBytes_facts : FunFacts prog 11 f11 (bodyOf f11) [(0, .sl), (1, .sl)] [(0, 32)] := ⟨func11, by kernel_rfl, by kernel_rfl, by kernel_rfl, by kernel_rfl, by kernel_rfl⟩
theorem book_WholeBytes_calls (K : Nat) (x : TT [(0, .sl), (1, .sl)]) (w : World) (y : TR [.bool]) (w2 : World) (h : book_WholeBytes K x.1 x.2.1 w = some (y, w2)) : Calls prog 11 (encA [(0, .sl), (1, .sl)] x).toArray w (fun e w3 => e = .returned (resV (encR [.bool] y)) ∧ w3 = w2) :=
    mk_fun (O := tabL [([1, 1, 1, 1, 0, 1], book_WholeBytes_l0_se K)]) (Lp := [(0, .sl), (1, .sl)]) (Rt := [.bool]) (S := (fun x w => book_WholeBytes K x.1 x.2.1 w)) (book_WholeBytes_Eok K) (book_WholeBytes_Rok K) rfl book_WholeBytes_facts (Orc.cons (by kernel_rfl) (book_WholeBytes_l0_se_ok K [(0, 32)] (by kernel_rfl)) (Orc.nil _ _ _)) (fun _ _ => by kernel_rfl) x w y w2 h
noncomputable def book_WholeBytes_ce (K : Nat) : CE := funE [(0, .sl), (1, .sl)] [.bool] (fun x w => book_WholeBytes K x.1 x.2.1 w)
theorem book_WholeBytes_ok (K : Nat) : (book_WholeBytes_ce K).Ok prog 11 := funE_ok (Rt := [.bool]) (S := (fun x w => book_WholeBytes K x.1 x.2.1 w)) book_WholeBytes_facts fun x w y w2 h => book_WholeBytes_calls K x w y w2 h

noncomputable def ref01_worth_R : List (Nat × RE) := []
theorem ref01_worth_Rok : REnv.Ok prog (tab (ref01_worth_R)) := (REnv.nil _)
/-- coffer/cofferref01.worth -/
noncomputable def ref01_worth (c0 : Int) : Option (Int × Unit) :=
  if (decide (c0 ≥ 65)) = true then (if (decide (c0 ≤ 90)) = true then (some ((IntKind.i64.wrap ((IntKind.i64.wrap c0) - 65)), ())) else (if (decide (c0 ≥ 97)) = true then (if (decide (c0 ≤ 122)) = true then (some ((IntKind.i64.wrap ((IntKind.i64.wrap ((IntKind.i64.wrap c0) - 97)) + 26)), ())) else (if (decide (c0 ≥ 48)) = true then (if (decide (c0 ≤ 57)) = true then (some ((IntKind.i64.wrap ((IntKind.i64.wrap ((IntKind.i64.wrap c0) - 48)) + 52)), ())) else (if (c0 == 43) = true then (some (62, ())) else (if (c0 == 47) = true then (some (63, ())) else (some ((-1), ()))))) else (if (c0 == 43) = true then (some (62, ())) else (if (c0 == 47) = true then (some (63, ())) else (some ((-1), ())))))) else (if (decide (c0 ≥ 48)) = true then (if (decide (c0 ≤ 57)) = true then (some ((IntKind.i64.wrap ((IntKind.i64.wrap ((IntKind.i64.wrap c0) - 48)) + 52)), ())) else (if (c0 == 43) = true then (some (62, ())) else (if (c0 == 47) = true then (some (63, ())) else (some ((-1), ()))))) else (if (c0 == 43) = true then (some (62, ())) else (if (c0 == 47) = true then (some (63, ())) else (some ((-1), ()))))))) else (if (decide (c0 ≥ 97)) = true then (if (decide (c0 ≤ 122)) = true then (some ((IntKind.i64.wrap ((IntKind.i64.wrap ((IntKind.i64.wrap c0) - 97)) + 26)), ())) else (if (decide (c0 ≥ 48)) = true then (if (decide (c0 ≤ 57)) = true then (some ((IntKind.i64.wrap ((IntKind.i64.wrap ((IntKind.i64.wrap c0) - 48)) + 52)), ())) else (if (c0 == 43) = true then (some (62, ())) else (if (c0 == 47) = true then (some (63, ())) else (some ((-1), ()))))) else (if (c0 == 43) = true then (some (62, ())) else (if (c0 == 47) = true then (some (63, ())) else (some ((-1), ())))))) else (if (decide (c0 ≥ 48)) = true then (if (decide (c0 ≤ 57)) = true then (some ((IntKind.i64.wrap ((IntKind.i64.wrap ((IntKind.i64.wrap c0) - 48)) + 52)), ())) else (if (c0 == 43) = true then (some (62, ())) else (if (c0 == 47) = true then (some (63, ())) else (some ((-1), ()))))) else (if (c0 == 43) = true then (some (62, ())) else (if (c0 == 47) = true then (some (63, ())) else (some ((-1), ()))))))
theorem ref01_worth_facts : FunFacts prog 30 f30 (bodyOf f30) [(0, .int .u8)] [(0, 41)] := ⟨func30, by kernel_rfl, by kernel_rfl, by kernel_rfl, by kernel_rfl, by kernel_rfl⟩
theorem ref01_worth_calls (x : TT [(0, .int .u8)]) (w : World) (y : TR [.int .i64]) (h : ref01_worth x.1 = some y) : Calls prog 30 (encA [(0, .int .u8)] x).toArray w (fun e w3 => e = .returned (resV (encR [.int .i64] y)) ∧ w3 = w) :=
    mk_funQ (O := tabL []) (Lp := [(0, .int .u8)]) (Rt := [.int .i64]) (S := (fun x w => ref01_worth x.1)) (ref01_worth_Rok) ref01_worth_facts (OrcQ.nil _ _ _) (fun _ _ => by kernel_rfl) x w y h
noncomputable def ref01_worth_re : RE := funR [(0, .int .u8)] [.int .i64] (fun x w => ref01_worth x.1)
theorem ref01_worth_ok : (ref01_worth_re).Ok prog 30 := funR_ok (Rt := [.int .i64]) (S := (fun x w => ref01_worth x.1)) ref01_worth_facts fun x w y h => ref01_worth_calls x w y h

noncomputable def ref01_letter_R : List (Nat × RE) := []
theorem ref01_letter_Rok : REnv.Ok prog (tab (ref01_letter_R)) := (REnv.nil _)
/-- coffer/cofferref01.letter -/
noncomputable def ref01_letter (v0 : Int) : Option (Int × Unit) :=
  if (decide (v0 < 26)) = true then (some ((IntKind.u8.wrap (IntKind.i64.wrap (65 + v0))), ())) else (if (decide (v0 < 52)) = true then (some ((IntKind.u8.wrap (IntKind.i64.wrap ((IntKind.i64.wrap (97 + v0)) - 26))), ())) else (if (decide (v0 < 62)) = true then (some ((IntKind.u8.wrap (IntKind.i64.wrap ((IntKind.i64.wrap (48 + v0)) - 52))), ())) else (if (v0 == 62) = true then (some (43, ())) else (some (47, ())))))
theorem ref01_letter_facts : FunFacts prog 27 f27 (bodyOf f27) [(0, .int .i64)] [(0, 26)] := ⟨func27, by kernel_rfl, by kernel_rfl, by kernel_rfl, by kernel_rfl, by kernel_rfl⟩
theorem ref01_letter_calls (x : TT [(0, .int .i64)]) (w : World) (y : TR [.int .u8]) (h : ref01_letter x.1 = some y) : Calls prog 27 (encA [(0, .int .i64)] x).toArray w (fun e w3 => e = .returned (resV (encR [.int .u8] y)) ∧ w3 = w) :=
    mk_funQ (O := tabL []) (Lp := [(0, .int .i64)]) (Rt := [.int .u8]) (S := (fun x w => ref01_letter x.1)) (ref01_letter_Rok) ref01_letter_facts (OrcQ.nil _ _ _) (fun _ _ => by kernel_rfl) x w y h
noncomputable def ref01_letter_re : RE := funR [(0, .int .i64)] [.int .u8] (fun x w => ref01_letter x.1)
theorem ref01_letter_ok : (ref01_letter_re).Ok prog 27 := funR_ok (Rt := [.int .u8]) (S := (fun x w => ref01_letter x.1)) ref01_letter_facts fun x w y h => ref01_letter_calls x w y h

noncomputable def ref01_FromHex_E (K : Nat) : List (Nat × CE) := []
theorem ref01_FromHex_Eok (K : Nat) : Env.Ok prog (tab (ref01_FromHex_E K)) := (Env.nil _)
noncomputable def ref01_FromHex_R (K : Nat) : List (Nat × RE) := [(28, ref01_digit_re)]
theorem ref01_FromHex_Rok (K : Nat) : REnv.Ok prog (tab (ref01_FromHex_R K)) := (REnv.cons (ref01_digit_ok) (REnv.nil _))
noncomputable def ref01_FromHex_l0_b (K : Nat) (rec : ByteArray → Int → World → Option ((Out (Unit) (Sl × Int × Int × Unit)) × World)) (s0 : ByteArray) (i5 : Int) (w : World) : Option ((Out (Unit) (Sl × Int × Int × Unit)) × World) :=
  if (decide (i5 < ((s0.size : Nat) : Int))) = true then (if (0 : Int) ≤ i5 then ((s0[i5.toNat]?).bind fun b_1 =>
  (ref01_digit ((b_1.toNat : Nat) : Int)).bind fun r_2 =>
  if (decide (r_2.1 < 0)) = true then (some (.ret (⟨none, 0, 0⟩, 13, i5, ()), w)) else (rec s0 (IntKind.i64.wrap (i5 + 1)) w)) else none) else (some (.norm (), w))
noncomputable def ref01_FromHex_l0 (K : Nat) (n : Nat) : ByteArray → Int → World → Option ((Out (Unit) (Sl × Int × Int × Unit)) × World) := iter (fun _ _ _ => none) (ref01_FromHex_l0_b K) n
noncomputable def ref01_FromHex_l1_b (K : Nat) (rec : ByteArray → Sl → Int → World → Option ((Sl × Unit) × World)) (s0 : ByteArray) (out6 : Sl) (i7 : Int) (w : World) : Option ((Sl × Unit) × World) :=
  if (decide (i7 < ((s0.size : Nat) : Int))) = true then (if (0 : Int) ≤ i7 then ((s0[i7.toNat]?).bind fun b_6 =>
  if (0 : Int) ≤ (IntKind.i64.wrap (i7 + 1)) then ((s0[(IntKind.i64.wrap (i7 + 1)).toNat]?).bind fun b_7 =>
  (ref01_digit ((b_6.toNat : Nat) : Int)).bind fun r_8 =>
  (ref01_digit ((b_7.toNat : Nat) : Int)).bind fun r_9 =>
  bnd (bldS prog 25 1 #[(0, (.int .u8 (IntKind.u8.wrap (IntKind.i64.wrap ((IntKind.i64.wrap (16 * r_8.1)) + r_9.1)))))] w.drew) fun s_10 w_11 =>
  bnd (apd prog 25 25 (.slice out6.a out6.len out6.cap) (.slice s_10.a s_10.len s_10.cap) w_11) fun s_12 w_13 =>
  rec s0 s_12 (IntKind.i64.wrap (i7 + 2)) w_13) else none) else none) else (some ((out6, ()), w))
noncomputable def ref01_FromHex_l1 (K : Nat) (n : Nat) : ByteArray → Sl → Int → World → Option ((Sl × Unit) × World) := iter (fun _ _ _ _ => none) (ref01_FromHex_l1_b K) n
/-- coffer/cofferref01.FromHex -/
noncomputable def ref01_FromHex (K : Nat) (s0 : ByteArray) (w : World) : Option ((Sl × Int × Int × Unit) × World) :=
  if (decide (((s0.size : Nat) : Int) > 16777216)) = true then (some ((⟨none, 0, 0⟩, 4, 0, ()), w)) else (bnd (ref01_FromHex_l0 K K s0 0 w) fun y_3 w_4 =>
  (match y_3 with
  | .norm z_5n => (if ((((s0.size : Nat) : Int).tmod 2) == 1) = true then (some ((⟨none, 0, 0⟩, 13, ((s0.size : Nat) : Int), ()), w_4)) else (bnd (ref01_FromHex_l1 K K s0 ⟨none, 0, 0⟩ 0 w_4) fun y_14 w_15 =>
  some ((y_14.1, 0, 0, ()), w_15)))
  | .ret z_5r => (some ((z_5r.1, z_5r.2.1, z_5r.2.2.1, ()), w_4))))
theorem ref01_FromHex_l0_ok (K : Nat) (n : Nat) : StmtOk prog [(0, .str), (5, .int .i64)] [] [(2, .sl), (3, .int .i64), (4, .int .i64)] [(2, 6), (11, 23)] ((fun n x w => ref01_FromHex_l0 K n x.1 x.2.1 w) n) (.block 0 (.loop (cd (bodyOf f19) [1, 1, 0, 1, 0, 0]))) :=
    mk_loop (O := tabL []) (root := (bodyOf f19)) (π := [1, 1, 0, 1, 0, 0]) (id := 0) (Li := [(0, .str), (5, .int .i64)]) (Lo := []) (Lr := [(2, .sl), (3, .int .i64), (4, .int .i64)]) (S := (fun n x w => ref01_FromHex_l0 K n x.1 x.2.1 w)) (body := cd (bodyOf f19) [1, 1, 0, 1, 0, 0]) (ref01_FromHex_Eok K) (ref01_FromHex_Rok K) rfl (Orc.nil _ _ _) (by kernel_rfl) (fun _ _ => by kernel_rfl) (fun _ _ _ => by kernel_rfl) n
noncomputable def ref01_FromHex_l0_se (K : Nat) : SE := stmt [(0, .str), (5, .int .i64)] [] [(2, .sl), (3, .int .i64), (4, .int .i64)] [(2, 6), (11, 23)] (fun x w => ref01_FromHex_l0 K K x.1 x.2.1 w)
theorem ref01_FromHex_l0_se_ok (K : Nat) (R : Rg) (h : subRB [(2, 6), (11, 23)] R = true) : (ref01_FromHex_l0_se K).Ok prog R (.block 0 (.loop (cd (bodyOf f19) [1, 1, 0, 1, 0, 0]))) := stmt_ok (Li := [(0, .str), (5, .int .i64)]) (Lo := []) (Lr := [(2, .sl), (3, .int .i64), (4, .int .i64)]) (S := (fun x w => ref01_FromHex_l0 K K x.1 x.2.1 w)) (ref01_FromHex_l0_ok K K) (subR_of h)
theorem ref01_FromHex_l1_ok (K : Nat) (n : Nat) : StmtNOk prog [(0, .str), (6, .sl), (7, .int .i64)] [(6, .sl)] [(6, 8), (29, 50)] ((fun n x w => ref01_FromHex_l1 K n x.1 x.2.1 x.2.2.1 w) n) (.block 2 (.loop (cd (bodyOf f19) [1, 1, 1, 1, 1, 0, 1, 0, 0]))) :=
    mk_loopN (O := tabL []) (root := (bodyOf f19)) (π := [1, 1, 1, 1, 1, 0, 1, 0, 0]) (id := 2) (Li := [(0, .str), (6, .sl), (7, .int .i64)]) (Lo := [(6, .sl)]) (S := (fun n x w => ref01_FromHex_l1 K n x.1 x.2.1 x.2.2.1 w)) (body := cd (bodyOf f19) [1, 1, 1, 1, 1, 0, 1, 0, 0]) (ref01_FromHex_Eok K) (ref01_FromHex_Rok K) rfl (Orc.nil _ _ _) (by kernel_rfl) (fun _ _ => by kernel_rfl) (fun _ _ _ => by kernel_rfl) n
noncomputable def ref01_FromHex_l1_se (K : Nat) : SE := stmtN [(0, .str), (6, .sl), (7, .int .i64)] [(6, .sl)] [(6, 8), (29, 50)] (fun x w => ref01_FromHex_l1 K K x.1 x.2.1 x.2.2.1 w)
theorem ref01_FromHex_l1_se_ok (K : Nat) (R : Rg) (h : subRB [(6, 8), (29, 50)] R = true) : (ref01_FromHex_l1_se K).Ok prog R (.block 2 (.loop (cd (bodyOf f19) [1, 1, 1, 1, 1, 0, 1, 0, 0]))) := stmtN_ok (Li := [(0, .str), (6, .sl), (7, .int .i64)]) (Lo := [(6, .sl)]) (S := (fun x w => ref01_FromHex_l1 K K x.1 x.2.1 x.2.2.1 w)) (ref01_FromHex_l1_ok K K) (subR_of h)
theorem ref01_FromHex_facts : FunFacts prog 19 f19 (bodyOf f19) [(0, .str)] [(0, 51)] := ⟨func19, by kernel_rfl, by kernel_rfl, by kernel_rfl, by kernel_rfl, by kernel_rfl⟩
theorem ref01_FromHex_calls (K : Nat) (x : TT [(0, .str)]) (w : World) (y : TR [.sl, .int .i64, .int .i64]) (w2 : World) (h : ref01_FromHex K x.1 w = some (y, w2)) : Calls prog 19 (encA [(0, .str)] x).toArray w (fun e w3 => e = .returned (resV (encR [.sl, .int .i64, .int .i64] y)) ∧ w3 = w2) :=
    mk_fun (O := tabL [([1, 1, 0, 1], ref01_FromHex_l0_se K), ([1, 1, 1, 1, 1, 0, 1], ref01_FromHex_l1_se K)]) (Lp := [(0, .str)]) (Rt := [.sl, .int .i64, .int .i64]) (S := (fun x w => ref01_FromHex K x.1 w)) (ref01_FromHex_Eok K) (ref01_FromHex_Rok K) rfl ref01_FromHex_facts (Orc.cons (by kernel_rfl) (ref01_FromHex_l0_se_ok K [(0, 51)] (by kernel_rfl)) (Orc.cons (by kernel_rfl) (ref01_FromHex_l1_se_ok K [(0, 51)] (by kernel_rfl)) (Orc.nil _ _ _))) (fun _ _ => by kernel_rfl) x w y w2 h
noncomputable def ref01_FromHex_ce (K : Nat) : CE := funE [(0, .str)] [.sl, .int .i64, .int .i64] (fun x w => ref01_FromHex K x.1 w)
theorem ref01_FromHex_ok (K : Nat) : (ref01_FromHex_ce K).Ok prog 19 := funE_ok (Rt := [.sl, .int .i64, .int .i64]) (S := (fun x w => ref01_FromHex K x.1 w)) ref01_FromHex_facts fun x w y w2 h => ref01_FromHex_calls K x w y w2 h

noncomputable def ref01_Hex_E (K : Nat) : List (Nat × CE) := []
theorem ref01_Hex_Eok (K : Nat) : Env.Ok prog (tab (ref01_Hex_E K)) := (Env.nil _)
noncomputable def ref01_Hex_R (K : Nat) : List (Nat × RE) := []
theorem ref01_Hex_Rok (K : Nat) : REnv.Ok prog (tab (ref01_Hex_R K)) := (REnv.nil _)
noncomputable def ref01_Hex_l0_b (K : Nat) (rec : Sl → Sl → Int → World → Option ((Sl × Unit) × World)) (b0 : Sl) (out3 : Sl) (i4 : Int) (w : World) : Option ((Sl × Unit) × World) :=
  if (decide (i4 < ((b0.len : Nat) : Int))) = true then ((b0.a).bind fun p_1 =>
  if (0 : Int) ≤ i4 ∧ i4 < ((b0.len : Nat) : Int) then ((b0.a).bind fun p_2 =>
  if (0 : Int) ≤ i4 ∧ i4 < ((b0.len : Nat) : Int) then ((ldI .u8 (p_1.add (i4.toNat * 1)) w.drew).bind fun v_3 =>
  if (0 : Int) ≤ (IntKind.u8.wrap (v_3.tdiv 16)) then ((str1[(IntKind.u8.wrap (v_3.tdiv 16)).toNat]?).bind fun b_4 =>
  (ldI .u8 (p_2.add (i4.toNat * 1)) w.drew).bind fun v_5 =>
  if (0 : Int) ≤ (v_5.tmod 16) then ((str1[(v_5.tmod 16).toNat]?).bind fun b_6 =>
  bnd (bldS prog 25 2 #[(0, (.int .u8 ((b_4.toNat : Nat) : Int))), (1, (.int .u8 ((b_6.toNat : Nat) : Int)))] w.drew) fun s_7 w_8 =>
  bnd (apd prog 25 25 (.slice out3.a out3.len out3.cap) (.slice s_7.a s_7.len s_7.cap) w_8) fun s_9 w_10 =>
  rec b0 s_9 (IntKind.i64.wrap (i4 + 1)) w_10) else none) else none) else none) else none) else (some ((out3, ()), w))
noncomputable def ref01_Hex_l0 (K : Nat) (n : Nat) : Sl → Sl → Int → World → Option ((Sl × Unit) × World) := iter (fun _ _ _ _ => none) (ref01_Hex_l0_b K) n
/-- coffer/cofferref01.Hex -/
noncomputable def ref01_Hex (K : Nat) (b0 : Sl) (w : World) : Option ((ByteArray × Unit) × World) :=
  if (decide (((b0.len : Nat) : Int) > 8388608)) = true then (some ((str0, ()), w)) else (bnd (ref01_Hex_l0 K K b0 ⟨none, 0, 0⟩ 0 w) fun y_11 w_12 =>
  bnd (b2s prog y_11.1.a y_11.1.len y_11.1.cap w_12) fun c_13 w_14 =>
  some ((c_13, ()), w_14))
theorem ref01_Hex_l0_ok (K : Nat) (n : Nat) : StmtNOk prog [(0, .sl), (3, .sl), (4, .int .i64)] [(3, .sl)] [(3, 5), (8, 29)] ((fun n x w => ref01_Hex_l0 K n x.1 x.2.1 x.2.2.1 w) n) (.block 0 (.loop (cd (bodyOf f17) [1, 1, 1, 0, 1, 0, 0]))) :=
    mk_loopN (O := tabL []) (root := (bodyOf f17)) (π := [1, 1, 1, 0, 1, 0, 0]) (id := 0) (Li := [(0, .sl), (3, .sl), (4, .int .i64)]) (Lo := [(3, .sl)]) (S := (fun n x w => ref01_Hex_l0 K n x.1 x.2.1 x.2.2.1 w)) (body := cd (bodyOf f17) [1, 1, 1, 0, 1, 0, 0]) (ref01_Hex_Eok K) (ref01_Hex_Rok K) rfl (Orc.nil _ _ _) (by kernel_rfl) (fun _ _ => by kernel_rfl) (fun _ _ _ => by kernel_rfl) n
noncomputable def ref01_Hex_l0_se (K : Nat) : SE := stmtN [(0, .sl), (3, .sl), (4, .int .i64)] [(3, .sl)] [(3, 5), (8, 29)] (fun x w => ref01_Hex_l0 K K x.1 x.2.1 x.2.2.1 w)
theorem ref01_Hex_l0_se_ok (K : Nat) (R : Rg) (h : subRB [(3, 5), (8, 29)] R = true) : (ref01_Hex_l0_se K).Ok prog R (.block 0 (.loop (cd (bodyOf f17) [1, 1, 1, 0, 1, 0, 0]))) := stmtN_ok (Li := [(0, .sl), (3, .sl), (4, .int .i64)]) (Lo := [(3, .sl)]) (S := (fun x w => ref01_Hex_l0 K K x.1 x.2.1 x.2.2.1 w)) (ref01_Hex_l0_ok K K) (subR_of h)
theorem ref01_Hex_facts : FunFacts prog 17 f17 (bodyOf f17) [(0, .sl)] [(0, 31)] := ⟨func17, by kernel_rfl, by kernel_rfl, by kernel_rfl, by kernel_rfl, by kernel_rfl⟩
theorem ref01_Hex_calls (K : Nat) (x : TT [(0, .sl)]) (w : World) (y : TR [.str]) (w2 : World) (h : ref01_Hex K x.1 w = some (y, w2)) : Calls prog 17 (encA [(0, .sl)] x).toArray w (fun e w3 => e = .returned (resV (encR [.str] y)) ∧ w3 = w2) :=
    mk_fun (O := tabL [([1, 1, 1, 0, 1], ref01_Hex_l0_se K)]) (Lp := [(0, .sl)]) (Rt := [.str]) (S := (fun x w => ref01_Hex K x.1 w)) (ref01_Hex_Eok K) (ref01_Hex_Rok K) rfl ref01_Hex_facts (Orc.cons (by kernel_rfl) (ref01_Hex_l0_se_ok K [(0, 31)] (by kernel_rfl)) (Orc.nil _ _ _)) (fun _ _ => by kernel_rfl) x w y w2 h
noncomputable def ref01_Hex_ce (K : Nat) : CE := funE [(0, .sl)] [.str] (fun x w => ref01_Hex K x.1 w)
theorem ref01_Hex_ok (K : Nat) : (ref01_Hex_ce K).Ok prog 17 := funE_ok (Rt := [.str]) (S := (fun x w => ref01_Hex K x.1 w)) ref01_Hex_facts fun x w y w2 h => ref01_Hex_calls K x w y w2 h

noncomputable def ref01_fits_R : List (Nat × RE) := [(30, ref01_worth_re)]
theorem ref01_fits_Rok : REnv.Ok prog (tab (ref01_fits_R)) := (REnv.cons (ref01_worth_ok) (REnv.nil _))
/-- coffer/cofferref01.fits -/
noncomputable def ref01_fits (a0 : ByteArray) (a1 : Int) : Option (Bool × Unit) :=
  if (decide (a1 ≥ 4)) = true then (if (0 : Int) ≤ (IntKind.i64.wrap ((IntKind.i64.wrap (a1 - (a1.tmod 4))) - 1)) then ((a0[(IntKind.i64.wrap ((IntKind.i64.wrap (a1 - (a1.tmod 4))) - 1)).toNat]?).bind fun b_1 =>
  if (((b_1.toNat : Nat) : Int) == 61) = true then (some (false, ())) else (if (0 : Int) ≤ a1 then ((a0[a1.toNat]?).bind fun b_2 =>
  if (((b_2.toNat : Nat) : Int) != 61) = true then (if (0 : Int) ≤ a1 then ((a0[a1.toNat]?).bind fun b_3 =>
  (ref01_worth ((b_3.toNat : Nat) : Int)).bind fun r_4 =>
  if (decide (r_4.1 ≥ 0)) = true then (if ((a1.tmod 4) != 3) = true then (some (true, ())) else (if (0 : Int) ≤ (IntKind.i64.wrap (a1 - 1)) then ((a0[(IntKind.i64.wrap (a1 - 1)).toNat]?).bind fun b_5 =>
  some ((((b_5.toNat : Nat) : Int) != 61), ())) else none)) else (some (false, ()))) else none) else (if ((a1.tmod 4) == 2) = true then (if (0 : Int) ≤ (IntKind.i64.wrap (a1 - 1)) then ((a0[(IntKind.i64.wrap (a1 - 1)).toNat]?).bind fun b_6 =>
  (ref01_worth ((b_6.toNat : Nat) : Int)).bind fun r_7 =>
  some (((r_7.1.tmod 16) == 0), ())) else none) else (if ((a1.tmod 4) == 3) = true then (if (0 : Int) ≤ (IntKind.i64.wrap (a1 - 1)) then ((a0[(IntKind.i64.wrap (a1 - 1)).toNat]?).bind fun b_8 =>
  if (((b_8.toNat : Nat) : Int) == 61) = true then (some (true, ())) else (if (0 : Int) ≤ (IntKind.i64.wrap (a1 - 1)) then ((a0[(IntKind.i64.wrap (a1 - 1)).toNat]?).bind fun b_9 =>
  (ref01_worth ((b_9.toNat : Nat) : Int)).bind fun r_10 =>
  some (((r_10.1.tmod 4) == 0), ())) else none)) else none) else (some (false, ()))))) else none)) else none) else (if (0 : Int) ≤ a1 then ((a0[a1.toNat]?).bind fun b_11 =>
  if (((b_11.toNat : Nat) : Int) != 61) = true then (if (0 : Int) ≤ a1 then ((a0[a1.toNat]?).bind fun b_12 =>
  (ref01_worth ((b_12.toNat : Nat) : Int)).bind fun r_13 =>
  if (decide (r_13.1 ≥ 0)) = true then (if ((a1.tmod 4) != 3) = true then (some (true, ())) else (if (0 : Int) ≤ (IntKind.i64.wrap (a1 - 1)) then ((a0[(IntKind.i64.wrap (a1 - 1)).toNat]?).bind fun b_14 =>
  some ((((b_14.toNat : Nat) : Int) != 61), ())) else none)) else (some (false, ()))) else none) else (if ((a1.tmod 4) == 2) = true then (if (0 : Int) ≤ (IntKind.i64.wrap (a1 - 1)) then ((a0[(IntKind.i64.wrap (a1 - 1)).toNat]?).bind fun b_15 =>
  (ref01_worth ((b_15.toNat : Nat) : Int)).bind fun r_16 =>
  some (((r_16.1.tmod 16) == 0), ())) else none) else (if ((a1.tmod 4) == 3) = true then (if (0 : Int) ≤ (IntKind.i64.wrap (a1 - 1)) then ((a0[(IntKind.i64.wrap (a1 - 1)).toNat]?).bind fun b_17 =>
  if (((b_17.toNat : Nat) : Int) == 61) = true then (some (true, ())) else (if (0 : Int) ≤ (IntKind.i64.wrap (a1 - 1)) then ((a0[(IntKind.i64.wrap (a1 - 1)).toNat]?).bind fun b_18 =>
  (ref01_worth ((b_18.toNat : Nat) : Int)).bind fun r_19 =>
  some (((r_19.1.tmod 4) == 0), ())) else none)) else none) else (some (false, ()))))) else none)
theorem ref01_fits_facts : FunFacts prog 29 f29 (bodyOf f29) [(0, .str), (1, .int .i64)] [(0, 65)] := ⟨func29, by kernel_rfl, by kernel_rfl, by kernel_rfl, by kernel_rfl, by kernel_rfl⟩
theorem ref01_fits_calls (x : TT [(0, .str), (1, .int .i64)]) (w : World) (y : TR [.bool]) (h : ref01_fits x.1 x.2.1 = some y) : Calls prog 29 (encA [(0, .str), (1, .int .i64)] x).toArray w (fun e w3 => e = .returned (resV (encR [.bool] y)) ∧ w3 = w) :=
    mk_funQ (O := tabL []) (Lp := [(0, .str), (1, .int .i64)]) (Rt := [.bool]) (S := (fun x w => ref01_fits x.1 x.2.1)) (ref01_fits_Rok) ref01_fits_facts (OrcQ.nil _ _ _) (fun _ _ => by kernel_rfl) x w y h
noncomputable def ref01_fits_re : RE := funR [(0, .str), (1, .int .i64)] [.bool] (fun x w => ref01_fits x.1 x.2.1)
theorem ref01_fits_ok : (ref01_fits_re).Ok prog 29 := funR_ok (Rt := [.bool]) (S := (fun x w => ref01_fits x.1 x.2.1)) ref01_fits_facts fun x w y h => ref01_fits_calls x w y h

noncomputable def ref01_FromBase64_E (K : Nat) : List (Nat × CE) := []
theorem ref01_FromBase64_Eok (K : Nat) : Env.Ok prog (tab (ref01_FromBase64_E K)) := (Env.nil _)
noncomputable def ref01_FromBase64_R (K : Nat) : List (Nat × RE) := [(29, ref01_fits_re), (30, ref01_worth_re)]
theorem ref01_FromBase64_Rok (K : Nat) : REnv.Ok prog (tab (ref01_FromBase64_R K)) := (REnv.cons (ref01_fits_ok) (REnv.cons (ref01_worth_ok) (REnv.nil _)))
noncomputable def ref01_FromBase64_l0_b (K : Nat) (rec : ByteArray → Int → World → Option ((Out (Unit) (Sl × Int × Int × Unit)) × World)) (a0 : ByteArray) (a5 : Int) (w : World) : Option ((Out (Unit) (Sl × Int × Int × Unit)) × World) :=
  if (decide (a5 < ((a0.size : Nat) : Int))) = true then ((ref01_fits a0 a5).bind fun r_1 =>
  if (!r_1.1) = true then (some (.ret (⟨none, 0, 0⟩, 14, a5, ()), w)) else (rec a0 (IntKind.i64.wrap (a5 + 1)) w)) else (some (.norm (), w))
noncomputable def ref01_FromBase64_l0 (K : Nat) (n : Nat) : ByteArray → Int → World → Option ((Out (Unit) (Sl × Int × Int × Unit)) × World) := iter (fun _ _ _ => none) (ref01_FromBase64_l0_b K) n
noncomputable def ref01_FromBase64_l1_b (K : Nat) (rec : ByteArray → Sl → Int → World → Option ((Sl × Unit) × World)) (a0 : ByteArray) (a6 : Sl) (a7 : Int) (w : World) : Option ((Sl × Unit) × World) :=
  if (decide (a7 < ((a0.size : Nat) : Int))) = true then (if (0 : Int) ≤ a7 then ((a0[a7.toNat]?).bind fun b_5 =>
  if (0 : Int) ≤ (IntKind.i64.wrap (a7 + 1)) then ((a0[(IntKind.i64.wrap (a7 + 1)).toNat]?).bind fun b_6 =>
  (ref01_worth ((b_5.toNat : Nat) : Int)).bind fun r_7 =>
  (ref01_worth ((b_6.toNat : Nat) : Int)).bind fun r_8 =>
  bnd (bldS prog 25 1 #[(0, (.int .u8 (IntKind.u8.wrap (IntKind.i64.wrap ((IntKind.i64.wrap ((IntKind.i64.wrap (r_7.1 * 262144)) + (IntKind.i64.wrap (r_8.1 * 4096)))).tdiv 65536)))))] w.drew) fun s_9 w_10 =>
  bnd (apd prog 25 25 (.slice a6.a a6.len a6.cap) (.slice s_9.a s_9.len s_9.cap) w_10) fun s_11 w_12 =>
  if (0 : Int) ≤ (IntKind.i64.wrap (a7 + 2)) then ((a0[(IntKind.i64.wrap (a7 + 2)).toNat]?).bind fun b_13 =>
  if (((b_13.toNat : Nat) : Int) != 61) = true then (if (0 : Int) ≤ (IntKind.i64.wrap (a7 + 2)) then ((a0[(IntKind.i64.wrap (a7 + 2)).toNat]?).bind fun b_14 =>
  (ref01_worth ((b_14.toNat : Nat) : Int)).bind fun r_15 =>
  bnd (bldS prog 25 1 #[(0, (.int .u8 (IntKind.u8.wrap ((IntKind.i64.wrap ((IntKind.i64.wrap ((IntKind.i64.wrap ((IntKind.i64.wrap (r_7.1 * 262144)) + (IntKind.i64.wrap (r_8.1 * 4096)))) + (IntKind.i64.wrap (r_15.1 * 64)))).tdiv 256)).tmod 256))))] w_12) fun s_16 w_17 =>
  bnd (apd prog 25 25 (.slice s_11.a s_11.len s_11.cap) (.slice s_16.a s_16.len s_16.cap) w_17) fun s_18 w_19 =>
  if (0 : Int) ≤ (IntKind.i64.wrap (a7 + 3)) then ((a0[(IntKind.i64.wrap (a7 + 3)).toNat]?).bind fun b_20 =>
  if (((b_20.toNat : Nat) : Int) != 61) = true then (if (0 : Int) ≤ (IntKind.i64.wrap (a7 + 3)) then ((a0[(IntKind.i64.wrap (a7 + 3)).toNat]?).bind fun b_21 =>
  (ref01_worth ((b_21.toNat : Nat) : Int)).bind fun r_22 =>
  bnd (bldS prog 25 1 #[(0, (.int .u8 (IntKind.u8.wrap ((IntKind.i64.wrap ((IntKind.i64.wrap ((IntKind.i64.wrap ((IntKind.i64.wrap (r_7.1 * 262144)) + (IntKind.i64.wrap (r_8.1 * 4096)))) + (IntKind.i64.wrap (r_15.1 * 64)))) + r_22.1)).tmod 256))))] w_19) fun s_23 w_24 =>
  bnd (apd prog 25 25 (.slice s_18.a s_18.len s_18.cap) (.slice s_23.a s_23.len s_23.cap) w_24) fun s_25 w_26 =>
  rec a0 s_25 (IntKind.i64.wrap (a7 + 4)) w_26) else none) else (rec a0 s_18 (IntKind.i64.wrap (a7 + 4)) w_19)) else none) else none) else (if (0 : Int) ≤ (IntKind.i64.wrap (a7 + 3)) then ((a0[(IntKind.i64.wrap (a7 + 3)).toNat]?).bind fun b_27 =>
  if (((b_27.toNat : Nat) : Int) != 61) = true then (if (0 : Int) ≤ (IntKind.i64.wrap (a7 + 3)) then ((a0[(IntKind.i64.wrap (a7 + 3)).toNat]?).bind fun b_28 =>
  (ref01_worth ((b_28.toNat : Nat) : Int)).bind fun r_29 =>
  bnd (bldS prog 25 1 #[(0, (.int .u8 (IntKind.u8.wrap ((IntKind.i64.wrap ((IntKind.i64.wrap ((IntKind.i64.wrap (r_7.1 * 262144)) + (IntKind.i64.wrap (r_8.1 * 4096)))) + r_29.1)).tmod 256))))] w_12) fun s_30 w_31 =>
  bnd (apd prog 25 25 (.slice s_11.a s_11.len s_11.cap) (.slice s_30.a s_30.len s_30.cap) w_31) fun s_32 w_33 =>
  rec a0 s_32 (IntKind.i64.wrap (a7 + 4)) w_33) else none) else (rec a0 s_11 (IntKind.i64.wrap (a7 + 4)) w_12)) else none)) else none) else none) else none) else (some ((a6, ()), w))
noncomputable def ref01_FromBase64_l1 (K : Nat) (n : Nat) : ByteArray → Sl → Int → World → Option ((Sl × Unit) × World) := iter (fun _ _ _ _ => none) (ref01_FromBase64_l1_b K) n
/-- coffer/cofferref01.FromBase64 -/
noncomputable def ref01_FromBase64 (K : Nat) (a0 : ByteArray) (w : World) : Option ((Sl × Int × Int × Unit) × World) :=
  if (decide (((a0.size : Nat) : Int) > 16777216)) = true then (some ((⟨none, 0, 0⟩, 4, 0, ()), w)) else (bnd (ref01_FromBase64_l0 K K a0 0 w) fun y_2 w_3 =>
  (match y_2 with
  | .norm z_4n => (if ((((a0.size : Nat) : Int).tmod 4) != 0) = true then (some ((⟨none, 0, 0⟩, 14, ((a0.size : Nat) : Int), ()), w_3)) else (bnd (ref01_FromBase64_l1 K K a0 ⟨none, 0, 0⟩ 0 w_3) fun y_34 w_35 =>
  some ((y_34.1, 0, 0, ()), w_35)))
  | .ret z_4r => (some ((z_4r.1, z_4r.2.1, z_4r.2.2.1, ()), w_3))))
theorem ref01_FromBase64_l0_ok (K : Nat) (n : Nat) : StmtOk prog [(0, .str), (5, .int .i64)] [] [(2, .sl), (3, .int .i64), (4, .int .i64)] [(2, 6), (12, 23)] ((fun n x w => ref01_FromBase64_l0 K n x.1 x.2.1 w) n) (.block 0 (.loop (cd (bodyOf f20) [1, 1, 0, 1, 0, 0]))) :=
    mk_loop (O := tabL []) (root := (bodyOf f20)) (π := [1, 1, 0, 1, 0, 0]) (id := 0) (Li := [(0, .str), (5, .int .i64)]) (Lo := []) (Lr := [(2, .sl), (3, .int .i64), (4, .int .i64)]) (S := (fun n x w => ref01_FromBase64_l0 K n x.1 x.2.1 w)) (body := cd (bodyOf f20) [1, 1, 0, 1, 0, 0]) (ref01_FromBase64_Eok K) (ref01_FromBase64_Rok K) rfl (Orc.nil _ _ _) (by kernel_rfl) (fun _ _ => by kernel_rfl) (fun _ _ _ => by kernel_rfl) n
noncomputable def ref01_FromBase64_l0_se (K : Nat) : SE := stmt [(0, .str), (5, .int .i64)] [] [(2, .sl), (3, .int .i64), (4, .int .i64)] [(2, 6), (12, 23)] (fun x w => ref01_FromBase64_l0 K K x.1 x.2.1 w)
theorem ref01_FromBase64_l0_se_ok (K : Nat) (R : Rg) (h : subRB [(2, 6), (12, 23)] R = true) : (ref01_FromBase64_l0_se K).Ok prog R (.block 0 (.loop (cd (bodyOf f20) [1, 1, 0, 1, 0, 0]))) := stmt_ok (Li := [(0, .str), (5, .int .i64)]) (Lo := []) (Lr := [(2, .sl), (3, .int .i64), (4, .int .i64)]) (S := (fun x w => ref01_FromBase64_l0 K K x.1 x.2.1 w)) (ref01_FromBase64_l0_ok K K) (subR_of h)
theorem ref01_FromBase64_l1_ok (K : Nat) (n : Nat) : StmtNOk prog [(0, .str), (6, .sl), (7, .int .i64)] [(6, .sl)] [(6, 9), (29, 91)] ((fun n x w => ref01_FromBase64_l1 K n x.1 x.2.1 x.2.2.1 w) n) (.block 2 (.loop (cd (bodyOf f20) [1, 1, 1, 1, 1, 0, 1, 0, 0]))) :=
    mk_loopN (O := tabL []) (root := (bodyOf f20)) (π := [1, 1, 1, 1, 1, 0, 1, 0, 0]) (id := 2) (Li := [(0, .str), (6, .sl), (7, .int .i64)]) (Lo := [(6, .sl)]) (S := (fun n x w => ref01_FromBase64_l1 K n x.1 x.2.1 x.2.2.1 w)) (body := cd (bodyOf f20) [1, 1, 1, 1, 1, 0, 1, 0, 0]) (ref01_FromBase64_Eok K) (ref01_FromBase64_Rok K) rfl (Orc.nil _ _ _) (by kernel_rfl) (fun _ _ => by kernel_rfl) (fun _ _ _ => by kernel_rfl) n
noncomputable def ref01_FromBase64_l1_se (K : Nat) : SE := stmtN [(0, .str), (6, .sl), (7, .int .i64)] [(6, .sl)] [(6, 9), (29, 91)] (fun x w => ref01_FromBase64_l1 K K x.1 x.2.1 x.2.2.1 w)
theorem ref01_FromBase64_l1_se_ok (K : Nat) (R : Rg) (h : subRB [(6, 9), (29, 91)] R = true) : (ref01_FromBase64_l1_se K).Ok prog R (.block 2 (.loop (cd (bodyOf f20) [1, 1, 1, 1, 1, 0, 1, 0, 0]))) := stmtN_ok (Li := [(0, .str), (6, .sl), (7, .int .i64)]) (Lo := [(6, .sl)]) (S := (fun x w => ref01_FromBase64_l1 K K x.1 x.2.1 x.2.2.1 w)) (ref01_FromBase64_l1_ok K K) (subR_of h)
theorem ref01_FromBase64_facts : FunFacts prog 20 f20 (bodyOf f20) [(0, .str)] [(0, 92)] := ⟨func20, by kernel_rfl, by kernel_rfl, by kernel_rfl, by kernel_rfl, by kernel_rfl⟩
theorem ref01_FromBase64_calls (K : Nat) (x : TT [(0, .str)]) (w : World) (y : TR [.sl, .int .i64, .int .i64]) (w2 : World) (h : ref01_FromBase64 K x.1 w = some (y, w2)) : Calls prog 20 (encA [(0, .str)] x).toArray w (fun e w3 => e = .returned (resV (encR [.sl, .int .i64, .int .i64] y)) ∧ w3 = w2) :=
    mk_fun (O := tabL [([1, 1, 0, 1], ref01_FromBase64_l0_se K), ([1, 1, 1, 1, 1, 0, 1], ref01_FromBase64_l1_se K)]) (Lp := [(0, .str)]) (Rt := [.sl, .int .i64, .int .i64]) (S := (fun x w => ref01_FromBase64 K x.1 w)) (ref01_FromBase64_Eok K) (ref01_FromBase64_Rok K) rfl ref01_FromBase64_facts (Orc.cons (by kernel_rfl) (ref01_FromBase64_l0_se_ok K [(0, 92)] (by kernel_rfl)) (Orc.cons (by kernel_rfl) (ref01_FromBase64_l1_se_ok K [(0, 92)] (by kernel_rfl)) (Orc.nil _ _ _))) (fun _ _ => by kernel_rfl) x w y w2 h
noncomputable def ref01_FromBase64_ce (K : Nat) : CE := funE [(0, .str)] [.sl, .int .i64, .int .i64] (fun x w => ref01_FromBase64 K x.1 w)
theorem ref01_FromBase64_ok (K : Nat) : (ref01_FromBase64_ce K).Ok prog 20 := funE_ok (Rt := [.sl, .int .i64, .int .i64]) (S := (fun x w => ref01_FromBase64 K x.1 w)) ref01_FromBase64_facts fun x w y w2 h => ref01_FromBase64_calls K x w y w2 h

end Go.Sh
