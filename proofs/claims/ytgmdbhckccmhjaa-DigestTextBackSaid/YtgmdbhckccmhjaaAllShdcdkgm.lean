/- Texts of this claim, put together: Sh0, Sh1 -/
import Derived.Test.YtgmdbhckccmhjaaAllExtcfdbkc
import Derived.Test.YtgmdbhckccmhjaaProg
/- What functions of the program do, as Lean functions; that the machine does just that. Printed by shal.py, a program of this claim's writer. -/
set_option maxRecDepth 100000
set_option linter.unusedVariables false
namespace Go.Sh
open Go.Fw Go.Proofs.Try
def z39 : Array Value := ([.pointer none] ++ [.slice none 0 0] : List Value).toArray
def z45 : Array Value := Array.replicate 3 (.int .u8 0)
def str0 : ByteArray := ⟨#[]⟩
def str1 : ByteArray := ⟨#[48, 49, 50, 51, 52, 53, 54, 55, 56, 57, 97, 98, 99, 100, 101, 102]⟩
def str2 : ByteArray := ⟨#[65, 66, 67, 68, 69, 70, 71, 72, 73, 74, 75, 76, 77, 78, 79, 80, 81, 82, 83, 84, 85, 86, 87, 88, 89, 90, 97, 98, 99, 100, 101, 102, 103, 104, 105, 106, 107, 108, 109, 110, 111, 112, 113, 114, 115, 116, 117, 118, 119, 120, 121, 122, 48, 49, 50, 51, 52, 53, 54, 55, 56, 57, 43, 47]⟩

noncomputable def law01_num_R : List (Nat × RE) := []
theorem law01_num_Rok : REnv.Ok prog (tab (law01_num_R)) := (REnv.nil _)
/-- coffer/cofferlaw01.num -/
noncomputable def law01_num (e0 : Int) : Option (Int × Unit) :=
  some (e0, ())
theorem law01_num_facts : FunFacts prog 7 f7 (bodyOf f7) [(0, .int .i64)] [(0, 4)] := ⟨func7, by kernel_rfl, by kernel_rfl, by kernel_rfl, by kernel_rfl, by kernel_rfl⟩
theorem law01_num_calls (x : TT [(0, .int .i64)]) (w : World) (y : TR [.int .i64]) (h : law01_num x.1 = some y) : Calls prog 7 (encA [(0, .int .i64)] x).toArray w (fun e w3 => e = .returned (resV (encR [.int .i64] y)) ∧ w3 = w) :=
    mk_funQ (O := tabL []) (Lp := [(0, .int .i64)]) (Rt := [.int .i64]) (S := (fun x w => law01_num x.1)) (law01_num_Rok) law01_num_facts (OrcQ.nil _ _ _) (fun _ _ => by kernel_rfl) x w y h
noncomputable def law01_num_re : RE := funR [(0, .int .i64)] [.int .i64] (fun x w => law01_num x.1)
theorem law01_num_ok : (law01_num_re).Ok prog 7 := funR_ok (Rt := [.int .i64]) (S := (fun x w => law01_num x.1)) law01_num_facts fun x w y h => law01_num_calls x w y h

noncomputable def law01_DigestNames_R : List (Nat × RE) := [(7, law01_num_re)]
theorem law01_DigestNames_Rok : REnv.Ok prog (tab (law01_DigestNames_R)) := (REnv.cons (law01_num_ok) (REnv.nil _))
/-- coffer/cofferlaw01.DigestNames -/
noncomputable def law01_DigestNames  : Option (Bool × Unit) :=
  (law01_num 10).bind fun r_1 =>
  if (r_1.1 == 10) = true then ((law01_num 11).bind fun r_2 =>
  if (r_2.1 == 11) = true then ((law01_num 12).bind fun r_3 =>
  if (r_3.1 == 12) = true then ((law01_num 13).bind fun r_4 =>
  if (r_4.1 == 13) = true then ((law01_num 14).bind fun r_5 =>
  if (r_5.1 == 14) = true then ((law01_num 15).bind fun r_6 =>
  some ((r_6.1 == 15), ())) else (some (false, ()))) else (some (false, ()))) else (some (false, ()))) else (some (false, ()))) else (some (false, ()))
theorem law01_DigestNames_facts : FunFacts prog 3 f3 (bodyOf f3) [] [(0, 25)] := ⟨func3, by kernel_rfl, by kernel_rfl, by kernel_rfl, by kernel_rfl, by kernel_rfl⟩
theorem law01_DigestNames_calls (x : TT []) (w : World) (y : TR [.bool]) (h : law01_DigestNames  = some y) : Calls prog 3 (encA [] x).toArray w (fun e w3 => e = .returned (resV (encR [.bool] y)) ∧ w3 = w) :=
    mk_funQ (O := tabL []) (Lp := []) (Rt := [.bool]) (S := (fun x w => law01_DigestNames )) (law01_DigestNames_Rok) law01_DigestNames_facts (OrcQ.nil _ _ _) (fun _ _ => by kernel_rfl) x w y h
noncomputable def law01_DigestNames_re : RE := funR [] [.bool] (fun x w => law01_DigestNames )
theorem law01_DigestNames_ok : (law01_DigestNames_re).Ok prog 3 := funR_ok (Rt := [.bool]) (S := (fun x w => law01_DigestNames )) law01_DigestNames_facts fun x w y h => law01_DigestNames_calls x w y h

noncomputable def book_Bytes_E (K : Nat) : List (Nat × CE) := []
theorem book_Bytes_Eok (K : Nat) : Env.Ok prog (tab (book_Bytes_E K)) := (Env.nil _)
noncomputable def book_Bytes_R (K : Nat) : List (Nat × RE) := []
theorem book_Bytes_Rok (K : Nat) : REnv.Ok prog (tab (book_Bytes_R K)) := (REnv.nil _)
noncomputable def book_Bytes_l0_b (K : Nat) (rec : Sl → Sl → Int → World → Option ((Sl × Unit) × World)) (l0 : Sl) (c3 : Sl) (i4 : Int) (w : World) : Option ((Sl × Unit) × World) :=
  if (decide (i4 < 70)) = true then (bnd (bldS prog 25 1 #[(0, (.int .u8 (IntKind.u8.wrap (IntKind.i64.wrap (181 + i4)))))] w) fun s_3 w_4 =>
  bnd (apd prog 25 25 (.slice c3.a c3.len c3.cap) (.slice s_3.a s_3.len s_3.cap) w_4) fun s_5 w_6 =>
  rec l0 s_5 (IntKind.i64.wrap (i4 + 1)) w_6) else (some ((c3, ()), w))
noncomputable def book_Bytes_l0 (K : Nat) (n : Nat) : Sl → Sl → Int → World → Option ((Sl × Unit) × World) := iter (fun _ _ _ _ => none) (book_Bytes_l0_b K) n
/-- coffer/cofferbook.Bytes -/
noncomputable def book_Bytes (K : Nat) (l0 : Sl) (w : World) : Option ((Sl × Unit) × World) :=
  bnd (apd prog 25 25 (.slice none 0 0) (.slice l0.a l0.len l0.cap) w) fun s_1 w_2 =>
  bnd (book_Bytes_l0 K K l0 s_1 0 w_2) fun y_7 w_8 =>
  if (0 : Int) ≤ ((l0.len : Nat) : Int) ∧ ((l0.len : Nat) : Int) ≤ ((y_7.1.cap : Nat) : Int) then (some ((⟨(sla y_7.1.a 0 y_7.1.cap 1), ((Int.toNat (((l0.len : Nat) : Int))) - 0), (y_7.1.cap - 0)⟩, ()), w_8)) else none
theorem book_Bytes_l0_ok (K : Nat) (n : Nat) : StmtNOk prog [(0, .sl), (3, .sl), (4, .int .i64)] [(3, .sl)] [(3, 5), (9, 19)] ((fun n x w => book_Bytes_l0 K n x.1 x.2.1 x.2.2.1 w) n) (.block 0 (.loop (cd (bodyOf f8) [1, 1, 1, 0, 1, 0, 0]))) :=
    mk_loopN (O := tabL []) (root := (bodyOf f8)) (π := [1, 1, 1, 0, 1, 0, 0]) (id := 0) (Li := [(0, .sl), (3, .sl), (4, .int .i64)]) (Lo := [(3, .sl)]) (S := (fun n x w => book_Bytes_l0 K n x.1 x.2.1 x.2.2.1 w)) (body := cd (bodyOf f8) [1, 1, 1, 0, 1, 0, 0]) (book_Bytes_Eok K) (book_Bytes_Rok K) rfl (Orc.nil _ _ _) (by kernel_rfl) (fun _ _ => by kernel_rfl) (fun _ _ _ => by kernel_rfl) n
noncomputable def book_Bytes_l0_se (K : Nat) : SE := stmtN [(0, .sl), (3, .sl), (4, .int .i64)] [(3, .sl)] [(3, 5), (9, 19)] (fun x w => book_Bytes_l0 K K x.1 x.2.1 x.2.2.1 w)
theorem book_Bytes_l0_se_ok (K : Nat) (R : Rg) (h : subRB [(3, 5), (9, 19)] R = true) : (book_Bytes_l0_se K).Ok prog R (.block 0 (.loop (cd (bodyOf f8) [1, 1, 1, 0, 1, 0, 0]))) := stmtN_ok (Li := [(0, .sl), (3, .sl), (4, .int .i64)]) (Lo := [(3, .sl)]) (S := (fun x w => book_Bytes_l0 K K x.1 x.2.1 x.2.2.1 w)) (book_Bytes_l0_ok K K) (subR_of h)
theorem book_Bytes_facts : FunFacts prog 8 f8 (bodyOf f8) [(0, .sl)] [(0, 24)] := ⟨func8, by kernel_rfl, by kernel_rfl, by kernel_rfl, by kernel_rfl, by kernel_rfl⟩
theorem book_Bytes_calls (K : Nat) (x : TT [(0, .sl)]) (w : World) (y : TR [.sl]) (w2 : World) (h : book_Bytes K x.1 w = some (y, w2)) : Calls prog 8 (encA [(0, .sl)] x).toArray w (fun e w3 => e = .returned (resV (encR [.sl] y)) ∧ w3 = w2) :=
    mk_fun (O := tabL [([1, 1, 1, 0, 1], book_Bytes_l0_se K)]) (Lp := [(0, .sl)]) (Rt := [.sl]) (S := (fun x w => book_Bytes K x.1 w)) (book_Bytes_Eok K) (book_Bytes_Rok K) rfl book_Bytes_facts (Orc.cons (by kernel_rfl) (book_Bytes_l0_se_ok K [(0, 24)] (by kernel_rfl)) (Orc.nil _ _ _)) (fun _ _ => by kernel_rfl) x w y w2 h
noncomputable def book_Bytes_ce (K : Nat) : CE := funE [(0, .sl)] [.sl] (fun x w => book_Bytes K x.1 w)
theorem book_Bytes_ok (K : Nat) : (book_Bytes_ce K).Ok prog 8 := funE_ok (Rt := [.sl]) (S := (fun x w => book_Bytes K x.1 w)) book_Bytes_facts fun x w y w2 h => book_Bytes_calls K x w y w2 h

noncomputable def book_SameBytes_E (K : Nat) : List (Nat × CE) := []
theorem book_SameBytes_Eok (K : Nat) : Env.Ok prog (tab (book_SameBytes_E K)) := (Env.nil _)
noncomputable def book_SameBytes_R (K : Nat) : List (Nat × RE) := []
theorem book_SameBytes_Rok (K : Nat) : REnv.Ok prog (tab (book_SameBytes_R K)) := (REnv.nil _)
noncomputable def book_SameBytes_l0_b (K : Nat) (rec : Sl → Sl → Int → World → Option ((Out (Unit) (Bool × Unit)) × World)) (a0 : Sl) (b1 : Sl) (i5 : Int) (w : World) : Option ((Out (Unit) (Bool × Unit)) × World) :=
  if (decide (i5 < ((a0.len : Nat) : Int))) = true then ((a0.a).bind fun p_1 =>
  if (0 : Int) ≤ i5 ∧ i5 < ((a0.len : Nat) : Int) then ((b1.a).bind fun p_2 =>
  if (0 : Int) ≤ i5 ∧ i5 < ((b1.len : Nat) : Int) then ((ldI .u8 (p_1.add ((Int.toNat i5) * 1)) w.drew).bind fun v_3 =>
  (ldI .u8 (p_2.add ((Int.toNat i5) * 1)) w.drew).bind fun v_4 =>
  if (v_3 != v_4) = true then (some (.ret (false, ()), w.drew)) else (rec a0 b1 (IntKind.i64.wrap (i5 + 1)) w.drew)) else none) else none) else (some (.norm (), w))
noncomputable def book_SameBytes_l0 (K : Nat) (n : Nat) : Sl → Sl → Int → World → Option ((Out (Unit) (Bool × Unit)) × World) := iter (fun _ _ _ _ => none) (book_SameBytes_l0_b K) n
/-- coffer/cofferbook.SameBytes -/
noncomputable def book_SameBytes (K : Nat) (a0 : Sl) (b1 : Sl) (w : World) : Option ((Bool × Unit) × World) :=
  if (((a0.len : Nat) : Int) != ((b1.len : Nat) : Int)) = true then (some ((false, ()), w)) else (bnd (book_SameBytes_l0 K K a0 b1 0 w) fun y_5 w_6 =>
  (match y_5 with
  | .norm z_7n => (some ((true, ()), w_6))
  | .ret z_7r => (some ((z_7r.1, ()), w_6))))
theorem book_SameBytes_l0_ok (K : Nat) (n : Nat) : StmtOk prog [(0, .sl), (1, .sl), (5, .int .i64)] [] [(4, .bool)] [(4, 6), (11, 26)] ((fun n x w => book_SameBytes_l0 K n x.1 x.2.1 x.2.2.1 w) n) (.block 0 (.loop (cd (bodyOf f9) [1, 1, 0, 1, 0, 0]))) :=
    mk_loop (O := tabL []) (root := (bodyOf f9)) (π := [1, 1, 0, 1, 0, 0]) (id := 0) (Li := [(0, .sl), (1, .sl), (5, .int .i64)]) (Lo := []) (Lr := [(4, .bool)]) (S := (fun n x w => book_SameBytes_l0 K n x.1 x.2.1 x.2.2.1 w)) (body := cd (bodyOf f9) [1, 1, 0, 1, 0, 0]) (book_SameBytes_Eok K) (book_SameBytes_Rok K) rfl (Orc.nil _ _ _) (by kernel_rfl) (fun _ _ => by kernel_rfl) (fun _ _ _ => by kernel_rfl) n
noncomputable def book_SameBytes_l0_se (K : Nat) : SE := stmt [(0, .sl), (1, .sl), (5, .int .i64)] [] [(4, .bool)] [(4, 6), (11, 26)] (fun x w => book_SameBytes_l0 K K x.1 x.2.1 x.2.2.1 w)
theorem book_SameBytes_l0_se_ok (K : Nat) (R : Rg) (h : subRB [(4, 6), (11, 26)] R = true) : (book_SameBytes_l0_se K).Ok prog R (.block 0 (.loop (cd (bodyOf f9) [1, 1, 0, 1, 0, 0]))) := stmt_ok (Li := [(0, .sl), (1, .sl), (5, .int .i64)]) (Lo := []) (Lr := [(4, .bool)]) (S := (fun x w => book_SameBytes_l0 K K x.1 x.2.1 x.2.2.1 w)) (book_SameBytes_l0_ok K K) (subR_of h)
theorem book_SameBytes_facts : FunFacts prog 9 f9 (bodyOf f9) [(0, .sl), (1, .sl)] [(0, 26)] := ⟨func9, by kernel_rfl, by kernel_rfl, by kernel_rfl, by kernel_rfl, by kernel_rfl⟩
theorem book_SameBytes_calls (K : Nat) (x : TT [(0, .sl), (1, .sl)]) (w : World) (y : TR [.bool]) (w2 : World) (h : book_SameBytes K x.1 x.2.1 w = some (y, w2)) : Calls prog 9 (encA [(0, .sl), (1, .sl)] x).toArray w (fun e w3 => e = .returned (resV (encR [.bool] y)) ∧ w3 = w2) :=
    mk_fun (O := tabL [([1, 1, 0, 1], book_SameBytes_l0_se K)]) (Lp := [(0, .sl), (1, .sl)]) (Rt := [.bool]) (S := (fun x w => book_SameBytes K x.1 x.2.1 w)) (book_SameBytes_Eok K) (book_SameBytes_Rok K) rfl book_SameBytes_facts (Orc.cons (by kernel_rfl) (book_SameBytes_l0_se_ok K [(0, 26)] (by kernel_rfl)) (Orc.nil _ _ _)) (fun _ _ => by kernel_rfl) x w y w2 h
noncomputable def book_SameBytes_ce (K : Nat) : CE := funE [(0, .sl), (1, .sl)] [.bool] (fun x w => book_SameBytes K x.1 x.2.1 w)
theorem book_SameBytes_ok (K : Nat) : (book_SameBytes_ce K).Ok prog 9 := funE_ok (Rt := [.bool]) (S := (fun x w => book_SameBytes K x.1 x.2.1 w)) book_SameBytes_facts fun x w y w2 h => book_SameBytes_calls K x w y w2 h

noncomputable def digest_Equal_E (K : Nat) : List (Nat × CE) := []
theorem digest_Equal_Eok (K : Nat) : Env.Ok prog (tab (digest_Equal_E K)) := (Env.nil _)
noncomputable def digest_Equal_R (K : Nat) : List (Nat × RE) := []
theorem digest_Equal_Rok (K : Nat) : REnv.Ok prog (tab (digest_Equal_R K)) := (REnv.nil _)
noncomputable def digest_Equal_l0_b (K : Nat) (rec : Sl → Sl → Int → Int → Int → World → Option ((Int × Unit) × World)) (a0 : Sl) (b1 : Sl) (unlike5 : Int) (a13 : Int) (a14 : Int) (w : World) : Option ((Int × Unit) × World) :=
  if (decide (a14 < a13)) = true then ((a0.a).bind fun p_1 =>
  if (0 : Int) ≤ a14 ∧ a14 < ((a0.len : Nat) : Int) then ((b1.a).bind fun p_2 =>
  if (0 : Int) ≤ a14 ∧ a14 < ((b1.len : Nat) : Int) then ((ldI .u8 (p_1.add ((Int.toNat a14) * 1)) w.drew).bind fun v_3 =>
  (ldI .u8 (p_2.add ((Int.toNat a14) * 1)) w.drew).bind fun v_4 =>
  rec a0 b1 (bits .or .u8 unlike5 (bits .xor .u8 v_3 v_4)) a13 (IntKind.i64.wrap (a14 + 1)) w.drew) else none) else none) else (some ((unlike5, ()), w))
noncomputable def digest_Equal_l0 (K : Nat) (n : Nat) : Sl → Sl → Int → Int → Int → World → Option ((Int × Unit) × World) := iter (fun _ _ _ _ _ _ => none) (digest_Equal_l0_b K) n
/-- coffer/digest.Equal -/
noncomputable def digest_Equal (K : Nat) (a0 : Sl) (b1 : Sl) (w : World) : Option ((Bool × Unit) × World) :=
  if (((a0.len : Nat) : Int) != ((b1.len : Nat) : Int)) = true then (some ((false, ()), w)) else (bnd (digest_Equal_l0 K K a0 b1 0 ((a0.len : Nat) : Int) 0 w) fun y_5 w_6 =>
  some (((y_5.1 == 0), ()), w_6))
theorem digest_Equal_l0_ok (K : Nat) (n : Nat) : StmtNOk prog [(0, .sl), (1, .sl), (5, .int .u8), (13, .int .i64), (14, .int .i64)] [(5, .int .u8)] [(5, 7), (14, 29)] ((fun n x w => digest_Equal_l0 K n x.1 x.2.1 x.2.2.1 x.2.2.2.1 x.2.2.2.2.1 w) n) (.block 0 (.loop (cd (bodyOf f10) [1, 1, 1, 0, 1, 0, 0]))) :=
    mk_loopN (O := tabL []) (root := (bodyOf f10)) (π := [1, 1, 1, 0, 1, 0, 0]) (id := 0) (Li := [(0, .sl), (1, .sl), (5, .int .u8), (13, .int .i64), (14, .int .i64)]) (Lo := [(5, .int .u8)]) (S := (fun n x w => digest_Equal_l0 K n x.1 x.2.1 x.2.2.1 x.2.2.2.1 x.2.2.2.2.1 w)) (body := cd (bodyOf f10) [1, 1, 1, 0, 1, 0, 0]) (digest_Equal_Eok K) (digest_Equal_Rok K) rfl (Orc.nil _ _ _) (by kernel_rfl) (fun _ _ => by kernel_rfl) (fun _ _ _ => by kernel_rfl) n
noncomputable def digest_Equal_l0_se (K : Nat) : SE := stmtN [(0, .sl), (1, .sl), (5, .int .u8), (13, .int .i64), (14, .int .i64)] [(5, .int .u8)] [(5, 7), (14, 29)] (fun x w => digest_Equal_l0 K K x.1 x.2.1 x.2.2.1 x.2.2.2.1 x.2.2.2.2.1 w)
theorem digest_Equal_l0_se_ok (K : Nat) (R : Rg) (h : subRB [(5, 7), (14, 29)] R = true) : (digest_Equal_l0_se K).Ok prog R (.block 0 (.loop (cd (bodyOf f10) [1, 1, 1, 0, 1, 0, 0]))) := stmtN_ok (Li := [(0, .sl), (1, .sl), (5, .int .u8), (13, .int .i64), (14, .int .i64)]) (Lo := [(5, .int .u8)]) (S := (fun x w => digest_Equal_l0 K K x.1 x.2.1 x.2.2.1 x.2.2.2.1 x.2.2.2.2.1 w)) (digest_Equal_l0_ok K K) (subR_of h)
theorem digest_Equal_facts : FunFacts prog 10 f10 (bodyOf f10) [(0, .sl), (1, .sl)] [(0, 31)] := ⟨func10, by kernel_rfl, by kernel_rfl, by kernel_rfl, by kernel_rfl, by kernel_rfl⟩
theorem digest_Equal_calls (K : Nat) (x : TT [(0, .sl), (1, .sl)]) (w : World) (y : TR [.bool]) (w2 : World) (h : digest_Equal K x.1 x.2.1 w = some (y, w2)) : Calls prog 10 (encA [(0, .sl), (1, .sl)] x).toArray w (fun e w3 => e = .returned (resV (encR [.bool] y)) ∧ w3 = w2) :=
    mk_fun (O := tabL [([1, 1, 1, 0, 1], digest_Equal_l0_se K)]) (Lp := [(0, .sl), (1, .sl)]) (Rt := [.bool]) (S := (fun x w => digest_Equal K x.1 x.2.1 w)) (digest_Equal_Eok K) (digest_Equal_Rok K) rfl digest_Equal_facts (Orc.cons (by kernel_rfl) (digest_Equal_l0_se_ok K [(0, 31)] (by kernel_rfl)) (Orc.nil _ _ _)) (fun _ _ => by kernel_rfl) x w y w2 h
noncomputable def digest_Equal_ce (K : Nat) : CE := funE [(0, .sl), (1, .sl)] [.bool] (fun x w => digest_Equal K x.1 x.2.1 w)
theorem digest_Equal_ok (K : Nat) : (digest_Equal_ce K).Ok prog 10 := funE_ok (Rt := [.bool]) (S := (fun x w => digest_Equal K x.1 x.2.1 w)) digest_Equal_facts fun x w y w2 h => digest_Equal_calls K x w y w2 h

noncomputable def book_WholeBytes_E (K : Nat) : List (Nat × CE) := [(9, book_SameBytes_ce K)]
theorem book_WholeBytes_Eok (K : Nat) : Env.Ok prog (tab (book_WholeBytes_E K)) := (Env.cons (book_SameBytes_ok K) (Env.nil _))
noncomputable def book_WholeBytes_R (K : Nat) : List (Nat × RE) := []
theorem book_WholeBytes_Rok (K : Nat) : REnv.Ok prog (tab (book_WholeBytes_R K)) := (REnv.nil _)
noncomputable def book_WholeBytes_l0_b (K : Nat) (rec : Int → Sl → Int → World → Option ((Out (Unit) (Bool × Unit)) × World)) (n5 : Int) (all6 : Sl) (i7 : Int) (w : World) : Option ((Out (Unit) (Bool × Unit)) × World) :=
  if (decide (i7 < 70)) = true then ((all6.a).bind fun p_3 =>
  if (0 : Int) ≤ (IntKind.i64.wrap (n5 + i7)) ∧ (IntKind.i64.wrap (n5 + i7)) < ((all6.len : Nat) : Int) then ((ldI .u8 (p_3.add ((Int.toNat (IntKind.i64.wrap (n5 + i7))) * 1)) w).bind fun v_4 =>
  if (v_4 != (IntKind.u8.wrap (IntKind.i64.wrap (181 + i7)))) = true then (some (.ret (false, ()), w)) else (rec n5 all6 (IntKind.i64.wrap (i7 + 1)) w)) else none) else (some (.norm (), w))
noncomputable def book_WholeBytes_l0 (K : Nat) (n : Nat) : Int → Sl → Int → World → Option ((Out (Unit) (Bool × Unit)) × World) := iter (fun _ _ _ _ => none) (book_WholeBytes_l0_b K) n
/-- coffer/cofferbook.WholeBytes -/
noncomputable def book_WholeBytes (K : Nat) (c0 : Sl) (l1 : Sl) (w : World) : Option ((Bool × Unit) × World) :=
  bnd (book_SameBytes K c0 l1 w) fun r_1 w_2 =>
  if (!r_1.1) = true then (some ((false, ()), w_2)) else (if (0 : Int) ≤ (IntKind.i64.wrap (((c0.len : Nat) : Int) + 70)) ∧ (IntKind.i64.wrap (((c0.len : Nat) : Int) + 70)) ≤ ((c0.cap : Nat) : Int) then (bnd (book_WholeBytes_l0 K K ((c0.len : Nat) : Int) ⟨(sla c0.a 0 c0.cap 1), ((Int.toNat ((IntKind.i64.wrap (((c0.len : Nat) : Int) + 70)))) - 0), (c0.cap - 0)⟩ 0 w_2) fun y_5 w_6 =>
  (match y_5 with
  | .norm z_7n => (some ((true, ()), w_6))
  | .ret z_7r => (some ((z_7r.1, ()), w_6)))) else none)
theorem book_WholeBytes_l0_ok (K : Nat) (n : Nat) : StmtOk prog [(5, .int .i64), (6, .sl), (7, .int .i64)] [] [(4, .bool)] [(4, 5), (7, 8), (18, 32)] ((fun n x w => book_WholeBytes_l0 K n x.1 x.2.1 x.2.2.1 w) n) (.block 0 (.loop (cd (bodyOf f11) [1, 1, 1, 1, 0, 1, 0, 0]))) :=
    mk_loop (O := tabL []) (root := (bodyOf f11)) (π := [1, 1, 1, 1, 0, 1, 0, 0]) (id := 0) (Li := [(5, .int .i64), (6, .sl), (7, .int .i64)]) (Lo := []) (Lr := [(4, .bool)]) (S := (fun n x w => book_WholeBytes_l0 K n x.1 x.2.1 x.2.2.1 w)) (body := cd (bodyOf f11) [1, 1, 1, 1, 0, 1, 0, 0]) (book_WholeBytes_Eok K) (book_WholeBytes_Rok K) rfl (Orc.nil _ _ _) (by kernel_rfl) (fun _ _ => by kernel_rfl) (fun _ _ _ => by kernel_rfl) n
noncomputable def book_WholeBytes_l0_se (K : Nat) : SE := stmt [(5, .int .i64), (6, .sl), (7, .int .i64)] [] [(4, .bool)] [(4, 5), (7, 8), (18, 32)] (fun x w => book_WholeBytes_l0 K K x.1 x.2.1 x.2.2.1 w)
theorem book_WholeBytes_l0_se_ok (K : Nat) (R : Rg) (h : subRB [(4, 5), (7, 8), (18, 32)] R = true) : (book_WholeBytes_l0_se K).Ok prog R (.block 0 (.loop (cd (bodyOf f11) [1, 1, 1, 1, 0, 1, 0, 0]))) := stmt_ok (Li := [(5, .int .i64), (6, .sl), (7, .int .i64)]) (Lo := []) (Lr := [(4, .bool)]) (S := (fun x w => book_WholeBytes_l0 K K x.1 x.2.1 x.2.2.1 w)) (book_WholeBytes_l0_ok K K) (subR_of h)
theorem book_WholeBytes_facts : FunFacts prog 11 f11 (bodyOf f11) [(0, .sl), (1, .sl)] [(0, 32)] := ⟨func11, by kernel_rfl, by kernel_rfl, by kernel_rfl, by kernel_rfl, by kernel_rfl⟩
theorem book_WholeBytes_calls (K : Nat) (x : TT [(0, .sl), (1, .sl)]) (w : World) (y : TR [.bool]) (w2 : World) (h : book_WholeBytes K x.1 x.2.1 w = some (y, w2)) : Calls prog 11 (encA [(0, .sl), (1, .sl)] x).toArray w (fun e w3 => e = .returned (resV (encR [.bool] y)) ∧ w3 = w2) :=
    mk_fun (O := tabL [([1, 1, 1, 1, 0, 1], book_WholeBytes_l0_se K)]) (Lp := [(0, .sl), (1, .sl)]) (Rt := [.bool]) (S := (fun x w => book_WholeBytes K x.1 x.2.1 w)) (book_WholeBytes_Eok K) (book_WholeBytes_Rok K) rfl book_WholeBytes_facts (Orc.cons (by kernel_rfl) (book_WholeBytes_l0_se_ok K [(0, 32)] (by kernel_rfl)) (Orc.nil _ _ _)) (fun _ _ => by kernel_rfl) x w y w2 h
noncomputable def book_WholeBytes_ce (K : Nat) : CE := funE [(0, .sl), (1, .sl)] [.bool] (fun x w => book_WholeBytes K x.1 x.2.1 w)
theorem book_WholeBytes_ok (K : Nat) : (book_WholeBytes_ce K).Ok prog 11 := funE_ok (Rt := [.bool]) (S := (fun x w => book_WholeBytes K x.1 x.2.1 w)) book_WholeBytes_facts fun x w y w2 h => book_WholeBytes_calls K x w y w2 h

noncomputable def law01_DigestEquals_E (K : Nat) : List (Nat × CE) := [(8, book_Bytes_ce K), (9, book_SameBytes_ce K), (10, digest_Equal_ce K), (11, book_WholeBytes_ce K)]
theorem law01_DigestEquals_Eok (K : Nat) : Env.Ok prog (tab (law01_DigestEquals_E K)) := (Env.cons (book_Bytes_ok K) (Env.cons (book_SameBytes_ok K) (Env.cons (digest_Equal_ok K) (Env.cons (book_WholeBytes_ok K) (Env.nil _)))))
noncomputable def law01_DigestEquals_R (K : Nat) : List (Nat × RE) := []
theorem law01_DigestEquals_Rok (K : Nat) : REnv.Ok prog (tab (law01_DigestEquals_R K)) := (REnv.nil _)
/-- coffer/cofferlaw01.DigestEquals -/
noncomputable def law01_DigestEquals (K : Nat) (a0 : Sl) (b1 : Sl) (w : World) : Option ((Bool × Unit) × World) :=
  bnd (book_Bytes K a0 w) fun r_1 w_2 =>
  bnd (book_Bytes K b1 w_2) fun r_3 w_4 =>
  bnd (book_SameBytes K a0 b1 w_4) fun r_5 w_6 =>
  bnd (digest_Equal K r_1.1 r_3.1 w_6) fun r_7 w_8 =>
  if (r_7.1 == r_5.1) = true then (bnd (digest_Equal K r_3.1 r_1.1 w_8) fun r_9 w_10 =>
  if (r_9.1 == r_5.1) = true then (bnd (digest_Equal K r_1.1 a0 w_10) fun r_11 w_12 =>
  if r_11.1 = true then (bnd (book_WholeBytes K r_1.1 a0 w_12) fun r_13 w_14 =>
  if r_13.1 = true then (bnd (book_WholeBytes K r_3.1 b1 w_14) fun r_15 w_16 =>
  some ((r_15.1, ()), w_16)) else (some ((false, ()), w_14))) else (some ((false, ()), w_12))) else (some ((false, ()), w_10))) else (some ((false, ()), w_8))
theorem law01_DigestEquals_facts : FunFacts prog 4 f4 (bodyOf f4) [(0, .sl), (1, .sl)] [(0, 42)] := ⟨func4, by kernel_rfl, by kernel_rfl, by kernel_rfl, by kernel_rfl, by kernel_rfl⟩
theorem law01_DigestEquals_calls (K : Nat) (x : TT [(0, .sl), (1, .sl)]) (w : World) (y : TR [.bool]) (w2 : World) (h : law01_DigestEquals K x.1 x.2.1 w = some (y, w2)) : Calls prog 4 (encA [(0, .sl), (1, .sl)] x).toArray w (fun e w3 => e = .returned (resV (encR [.bool] y)) ∧ w3 = w2) :=
    mk_fun (O := tabL []) (Lp := [(0, .sl), (1, .sl)]) (Rt := [.bool]) (S := (fun x w => law01_DigestEquals K x.1 x.2.1 w)) (law01_DigestEquals_Eok K) (law01_DigestEquals_Rok K) rfl law01_DigestEquals_facts (Orc.nil _ _ _) (fun _ _ => by kernel_rfl) x w y w2 h
noncomputable def law01_DigestEquals_ce (K : Nat) : CE := funE [(0, .sl), (1, .sl)] [.bool] (fun x w => law01_DigestEquals K x.1 x.2.1 w)
theorem law01_DigestEquals_ok (K : Nat) : (law01_DigestEquals_ce K).Ok prog 4 := funE_ok (Rt := [.bool]) (S := (fun x w => law01_DigestEquals K x.1 x.2.1 w)) law01_DigestEquals_facts fun x w y w2 h => law01_DigestEquals_calls K x w y w2 h

noncomputable def strings_Builder_WriteByte_E : List (Nat × CE) := [(32, strings_Builder_copyCheck_ce)]
theorem strings_Builder_WriteByte_Eok : Env.Ok prog (tab (strings_Builder_WriteByte_E)) := (Env.cons (strings_Builder_copyCheck_ok) (Env.nil _))
noncomputable def strings_Builder_WriteByte_R : List (Nat × RE) := []
theorem strings_Builder_WriteByte_Rok : REnv.Ok prog (tab (strings_Builder_WriteByte_R)) := (REnv.nil _)
/-- (*strings.Builder).WriteByte -/
noncomputable def strings_Builder_WriteByte (b0 : Option Addr) (c1 : Int) (w : World) : Option ((Value × Unit) × World) :=
  bnd (strings_Builder_copyCheck b0 w) fun r_1 w_2 =>
  (b0).bind fun p_3 =>
  (ldS (p_3.add 1) w_2).bind fun v_4 =>
  bnd (bldS prog 25 1 #[(0, (.int .u8 c1))] w_2) fun s_5 w_6 =>
  bnd (apd prog 25 25 (.slice v_4.a v_4.len v_4.cap) (.slice s_5.a s_5.len s_5.cap) w_6) fun s_7 w_8 =>
  (b0).bind fun p_9 =>
  (stC (p_9.add 1) (.slice s_7.a s_7.len s_7.cap) w_8).bind fun w_10 =>
  some ((.nilIface, ()), w_10)
theorem strings_Builder_WriteByte_facts : FunFacts prog 22 f22 (bodyOf f22) [(0, .ptr), (1, .int .u8)] [(0, 17)] := ⟨func22, by kernel_rfl, by kernel_rfl, by kernel_rfl, by kernel_rfl, by kernel_rfl⟩
theorem strings_Builder_WriteByte_calls (x : TT [(0, .ptr), (1, .int .u8)]) (w : World) (y : TR [.val]) (w2 : World) (h : strings_Builder_WriteByte x.1 x.2.1 w = some (y, w2)) : Calls prog 22 (encA [(0, .ptr), (1, .int .u8)] x).toArray w (fun e w3 => e = .returned (resV (encR [.val] y)) ∧ w3 = w2) :=
    mk_fun (O := tabL []) (Lp := [(0, .ptr), (1, .int .u8)]) (Rt := [.val]) (S := (fun x w => strings_Builder_WriteByte x.1 x.2.1 w)) (strings_Builder_WriteByte_Eok) (strings_Builder_WriteByte_Rok) rfl strings_Builder_WriteByte_facts (Orc.nil _ _ _) (fun _ _ => by kernel_rfl) x w y w2 h
noncomputable def strings_Builder_WriteByte_ce : CE := funE [(0, .ptr), (1, .int .u8)] [.val] (fun x w => strings_Builder_WriteByte x.1 x.2.1 w)
theorem strings_Builder_WriteByte_ok : (strings_Builder_WriteByte_ce).Ok prog 22 := funE_ok (Rt := [.val]) (S := (fun x w => strings_Builder_WriteByte x.1 x.2.1 w)) strings_Builder_WriteByte_facts fun x w y w2 h => strings_Builder_WriteByte_calls x w y w2 h

noncomputable def strings_Builder_String_E : List (Nat × CE) := []
theorem strings_Builder_String_Eok : Env.Ok prog (tab (strings_Builder_String_E)) := (Env.nil _)
noncomputable def strings_Builder_String_R : List (Nat × RE) := []
theorem strings_Builder_String_Rok : REnv.Ok prog (tab (strings_Builder_String_R)) := (REnv.nil _)
noncomputable def strings_Builder_String_s0 (b0 : Option Addr) (a2 : ByteArray) (w : World) : Option ((ByteArray × Unit) × World) :=
  (b0).bind fun p_1 =>
  (b0).bind fun p_2 =>
  (ldS (p_1.add 1) w.drew).bind fun v_3 =>
  (ldS (p_2.add 1) w.drew).bind fun v_4 =>
  bnd (usSD prog #[25] 53 #[(.slice v_3.a v_3.len v_3.cap)] w.drew) fun s_5 w_6 =>
  (ldS (p_2.add 1) w_6).bind fun v_7 =>
  sameK (.slice v_4.a v_4.len v_4.cap) (.slice v_7.a v_7.len v_7.cap) ((ldS (p_1.add 1) w_6).bind fun v_8 =>
  sameK (.slice v_3.a v_3.len v_3.cap) (.slice v_8.a v_8.len v_8.cap) (bnd (usS prog #[53, 3] 9 #[s_5, (.int .i64 ((v_4.len : Nat) : Int))] w_6) fun s_9 w_10 =>
  (ldS (p_2.add 1) w_10).bind fun v_11 =>
  sameK (.slice v_4.a v_4.len v_4.cap) (.slice v_11.a v_11.len v_11.cap) ((ldS (p_1.add 1) w_10).bind fun v_12 =>
  sameK (.slice v_3.a v_3.len v_3.cap) (.slice v_12.a v_12.len v_12.cap) (some ((s_9, ()), w_10)))))
/-- (*strings.Builder).String -/
noncomputable def strings_Builder_String (b0 : Option Addr) (w : World) : Option ((ByteArray × Unit) × World) :=
  bnd (strings_Builder_String_s0 b0 str0 w) fun y_13 w_14 =>
  some ((y_13.1, ()), w_14)
theorem strings_Builder_String_s0_ok : StmtNOk prog [(0, .ptr), (2, .str)] [(2, .str)] [(2, 14)] (fun x w => strings_Builder_String_s0 x.1 x.2.1 w) (cd (bodyOf f23) [1, 0]) :=
    mk_regionH (R := [(2, 14)]) (Li := [(0, .ptr), (2, .str)]) (Lo := [(2, .str)]) (S := (fun x w => strings_Builder_String_s0 x.1 x.2.1 w)) (strings_Builder_String_Eok) (strings_Builder_String_Rok) rfl (fun _ _ => by kernel_rfl)
noncomputable def strings_Builder_String_s0_se : SE := stmtN [(0, .ptr), (2, .str)] [(2, .str)] [(2, 14)] (fun x w => strings_Builder_String_s0 x.1 x.2.1 w)
theorem strings_Builder_String_s0_se_ok (R : Rg) (h : subRB [(2, 14)] R = true) : (strings_Builder_String_s0_se).Ok prog R (cd (bodyOf f23) [1, 0]) := stmtN_ok (Li := [(0, .ptr), (2, .str)]) (Lo := [(2, .str)]) (S := (fun x w => strings_Builder_String_s0 x.1 x.2.1 w)) (strings_Builder_String_s0_ok) (subR_of h)
theorem strings_Builder_String_facts : FunFacts prog 23 f23 (bodyOf f23) [(0, .ptr)] [(0, 14)] := ⟨func23, by kernel_rfl, by kernel_rfl, by kernel_rfl, by kernel_rfl, by kernel_rfl⟩
theorem strings_Builder_String_calls (x : TT [(0, .ptr)]) (w : World) (y : TR [.str]) (w2 : World) (h : strings_Builder_String x.1 w = some (y, w2)) : Calls prog 23 (encA [(0, .ptr)] x).toArray w (fun e w3 => e = .returned (resV (encR [.str] y)) ∧ w3 = w2) :=
    mk_fun (O := tabL [([1, 0], strings_Builder_String_s0_se)]) (Lp := [(0, .ptr)]) (Rt := [.str]) (S := (fun x w => strings_Builder_String x.1 w)) (strings_Builder_String_Eok) (strings_Builder_String_Rok) rfl strings_Builder_String_facts (Orc.cons (by kernel_rfl) (strings_Builder_String_s0_se_ok [(0, 14)] (by kernel_rfl)) (Orc.nil _ _ _)) (fun _ _ => by kernel_rfl) x w y w2 h
noncomputable def strings_Builder_String_ce : CE := funE [(0, .ptr)] [.str] (fun x w => strings_Builder_String x.1 w)
theorem strings_Builder_String_ok : (strings_Builder_String_ce).Ok prog 23 := funE_ok (Rt := [.str]) (S := (fun x w => strings_Builder_String x.1 w)) strings_Builder_String_facts fun x w y w2 h => strings_Builder_String_calls x w y w2 h

noncomputable def digest_Hex_E (K : Nat) : List (Nat × CE) := [(22, strings_Builder_WriteByte_ce), (23, strings_Builder_String_ce)]
theorem digest_Hex_Eok (K : Nat) : Env.Ok prog (tab (digest_Hex_E K)) := (Env.cons (strings_Builder_WriteByte_ok) (Env.cons (strings_Builder_String_ok) (Env.nil _)))
noncomputable def digest_Hex_R (K : Nat) : List (Nat × RE) := []
theorem digest_Hex_Rok (K : Nat) : REnv.Ok prog (tab (digest_Hex_R K)) := (REnv.nil _)
noncomputable def digest_Hex_l0_b (K : Nat) (rec : Addr → Sl → Int → Int → World → Option ((Unit) × World)) (out3 : Addr) (a9 : Sl) (a10 : Int) (a11 : Int) (w : World) : Option ((Unit) × World) :=
  if (decide (a11 < a10)) = true then ((a9.a).bind fun p_3 =>
  if (0 : Int) ≤ a11 ∧ a11 < ((a9.len : Nat) : Int) then ((ldI .u8 (p_3.add ((Int.toNat a11) * 1)) w).bind fun v_4 =>
  if (0 : Int) ≤ (Int.fdiv v_4 (2 ^ 4)) then ((str1[(Int.toNat (Int.fdiv v_4 (2 ^ 4)))]?).bind fun b_5 =>
  bnd (strings_Builder_WriteByte (some out3) ((b_5.toNat : Nat) : Int) w) fun r_6 w_7 =>
  if (0 : Int) ≤ (bits .and .u8 v_4 15) then ((str1[(Int.toNat (bits .and .u8 v_4 15))]?).bind fun b_8 =>
  bnd (strings_Builder_WriteByte (some out3) ((b_8.toNat : Nat) : Int) w_7) fun r_9 w_10 =>
  rec out3 a9 a10 (IntKind.i64.wrap (a11 + 1)) w_10) else none) else none) else none) else (some ((), w))
noncomputable def digest_Hex_l0 (K : Nat) (n : Nat) : Addr → Sl → Int → Int → World → Option ((Unit) × World) := iter (fun _ _ _ _ _ => none) (digest_Hex_l0_b K) n
/-- coffer/digest.Hex -/
noncomputable def digest_Hex (K : Nat) (b0 : Sl) (w : World) : Option ((ByteArray × Unit) × World) :=
  if (decide (((b0.len : Nat) : Int) > 8388608)) = true then (some ((str0, ()), w)) else (bnd (newB z39 39 w) fun out_1 w_2 =>
  bnd (digest_Hex_l0 K K out_1 b0 ((b0.len : Nat) : Int) 0 w_2) fun y_11 w_12 =>
  bnd (strings_Builder_String (some out_1) w_12) fun r_13 w_14 =>
  some ((r_13.1, ()), w_14))
theorem digest_Hex_l0_ok (K : Nat) (n : Nat) : StmtNOk prog [(3, .addr), (9, .sl), (10, .int .i64), (11, .int .i64)] [] [(5, 6), (11, 24)] ((fun n x w => digest_Hex_l0 K n x.1 x.2.1 x.2.2.1 x.2.2.2.1 w) n) (.block 0 (.loop (cd (bodyOf f12) [1, 1, 1, 0, 1, 0, 0]))) :=
    mk_loopN (O := tabL []) (root := (bodyOf f12)) (π := [1, 1, 1, 0, 1, 0, 0]) (id := 0) (Li := [(3, .addr), (9, .sl), (10, .int .i64), (11, .int .i64)]) (Lo := []) (S := (fun n x w => digest_Hex_l0 K n x.1 x.2.1 x.2.2.1 x.2.2.2.1 w)) (body := cd (bodyOf f12) [1, 1, 1, 0, 1, 0, 0]) (digest_Hex_Eok K) (digest_Hex_Rok K) rfl (Orc.nil _ _ _) (by kernel_rfl) (fun _ _ => by kernel_rfl) (fun _ _ _ => by kernel_rfl) n
noncomputable def digest_Hex_l0_se (K : Nat) : SE := stmtN [(3, .addr), (9, .sl), (10, .int .i64), (11, .int .i64)] [] [(5, 6), (11, 24)] (fun x w => digest_Hex_l0 K K x.1 x.2.1 x.2.2.1 x.2.2.2.1 w)
theorem digest_Hex_l0_se_ok (K : Nat) (R : Rg) (h : subRB [(5, 6), (11, 24)] R = true) : (digest_Hex_l0_se K).Ok prog R (.block 0 (.loop (cd (bodyOf f12) [1, 1, 1, 0, 1, 0, 0]))) := stmtN_ok (Li := [(3, .addr), (9, .sl), (10, .int .i64), (11, .int .i64)]) (Lo := []) (S := (fun x w => digest_Hex_l0 K K x.1 x.2.1 x.2.2.1 x.2.2.2.1 w)) (digest_Hex_l0_ok K K) (subR_of h)
theorem digest_Hex_facts : FunFacts prog 12 f12 (bodyOf f12) [(0, .sl)] [(0, 25)] := ⟨func12, by kernel_rfl, by kernel_rfl, by kernel_rfl, by kernel_rfl, by kernel_rfl⟩
theorem digest_Hex_calls (K : Nat) (x : TT [(0, .sl)]) (w : World) (y : TR [.str]) (w2 : World) (h : digest_Hex K x.1 w = some (y, w2)) : Calls prog 12 (encA [(0, .sl)] x).toArray w (fun e w3 => e = .returned (resV (encR [.str] y)) ∧ w3 = w2) :=
    mk_fun (O := tabL [([1, 1, 1, 0, 1], digest_Hex_l0_se K)]) (Lp := [(0, .sl)]) (Rt := [.str]) (S := (fun x w => digest_Hex K x.1 w)) (digest_Hex_Eok K) (digest_Hex_Rok K) rfl digest_Hex_facts (Orc.cons (by kernel_rfl) (digest_Hex_l0_se_ok K [(0, 25)] (by kernel_rfl)) (Orc.nil _ _ _)) (fun _ _ => by kernel_rfl) x w y w2 h
noncomputable def digest_Hex_ce (K : Nat) : CE := funE [(0, .sl)] [.str] (fun x w => digest_Hex K x.1 w)
theorem digest_Hex_ok (K : Nat) : (digest_Hex_ce K).Ok prog 12 := funE_ok (Rt := [.str]) (S := (fun x w => digest_Hex K x.1 w)) digest_Hex_facts fun x w y w2 h => digest_Hex_calls K x w y w2 h

noncomputable def digest_Base64_E (K : Nat) : List (Nat × CE) := [(22, strings_Builder_WriteByte_ce), (23, strings_Builder_String_ce)]
theorem digest_Base64_Eok (K : Nat) : Env.Ok prog (tab (digest_Base64_E K)) := (Env.cons (strings_Builder_WriteByte_ok) (Env.cons (strings_Builder_String_ok) (Env.nil _)))
noncomputable def digest_Base64_R (K : Nat) : List (Nat × RE) := []
theorem digest_Base64_Rok (K : Nat) : REnv.Ok prog (tab (digest_Base64_R K)) := (REnv.nil _)
noncomputable def digest_Base64_l1_b (K : Nat) (rec : Sl → Addr → Int → Int → Int → World → Option ((Unit) × World)) (b0 : Sl) (out3 : Addr) (n5 : Int) (v6 : Int) (a33 : Int) (w : World) : Option ((Unit) × World) :=
  if (decide (a33 < 4)) = true then (if (decide (a33 > n5)) = true then (bnd (strings_Builder_WriteByte (some out3) 61 w) fun r_10 w_11 =>
  rec b0 out3 n5 v6 (IntKind.i64.wrap (a33 + 1)) w_11) else (if (0 : Int) ≤ (IntKind.i64.wrap (18 - (IntKind.i64.wrap (6 * a33)))) then (if (0 : Int) ≤ (bits .and .u64 (Int.fdiv v6 (2 ^ (min (Int.toNat (IntKind.i64.wrap (18 - (IntKind.i64.wrap (6 * a33))))) IntKind.u64.bits))) 63) then ((str2[(Int.toNat (bits .and .u64 (Int.fdiv v6 (2 ^ (min (Int.toNat (IntKind.i64.wrap (18 - (IntKind.i64.wrap (6 * a33))))) IntKind.u64.bits))) 63))]?).bind fun b_12 =>
  bnd (strings_Builder_WriteByte (some out3) ((b_12.toNat : Nat) : Int) w) fun r_13 w_14 =>
  rec b0 out3 n5 v6 (IntKind.i64.wrap (a33 + 1)) w_14) else none) else none)) else (some ((), w))
noncomputable def digest_Base64_l1 (K : Nat) (n : Nat) : Sl → Addr → Int → Int → Int → World → Option ((Unit) × World) := iter (fun _ _ _ _ _ _ => none) (digest_Base64_l1_b K) n
noncomputable def digest_Base64_l0_b (K : Nat) (rec : Sl → Addr → World → Option ((Unit) × World)) (b0 : Sl) (out3 : Addr) (w : World) : Option ((Unit) × World) :=
  if (decide (((b0.len : Nat) : Int) > 0)) = true then (bnd (newB z45 45 w) fun three_3 w_4 =>
  bnd (cpy prog 25 25 (.slice (sla (some three_3) 0 3 1) (3 - 0) (3 - 0)) (.slice b0.a b0.len b0.cap) w_4) fun s_5 w_6 =>
  if (0 : Int) ≤ s_5 ∧ s_5 ≤ ((b0.len : Nat) : Int) then ((ldI .u8 (three_3.add (0 * 1)) w_6).bind fun v_7 =>
  (ldI .u8 (three_3.add (1 * 1)) w_6).bind fun v_8 =>
  (ldI .u8 (three_3.add (2 * 1)) w_6).bind fun v_9 =>
  bnd (digest_Base64_l1 K K ⟨(sla b0.a (Int.toNat (s_5)) b0.cap 1), (b0.len - (Int.toNat (s_5))), (b0.cap - (Int.toNat (s_5)))⟩ out3 s_5 (bits .or .u64 (bits .or .u64 (IntKind.u64.wrap ((IntKind.u64.wrap v_7) * 2 ^ 16)) (IntKind.u64.wrap ((IntKind.u64.wrap v_8) * 2 ^ 8))) (IntKind.u64.wrap v_9)) 0 w_6) fun y_15 w_16 =>
  rec ⟨(sla b0.a (Int.toNat (s_5)) b0.cap 1), (b0.len - (Int.toNat (s_5))), (b0.cap - (Int.toNat (s_5)))⟩ out3 w_16) else none) else (some ((), w))
noncomputable def digest_Base64_l0 (K : Nat) (n : Nat) : Sl → Addr → World → Option ((Unit) × World) := iter (fun _ _ _ => none) (digest_Base64_l0_b K) n
/-- coffer/digest.Base64 -/
noncomputable def digest_Base64 (K : Nat) (b0 : Sl) (w : World) : Option ((ByteArray × Unit) × World) :=
  if (decide (((b0.len : Nat) : Int) > 12582912)) = true then (some ((str0, ()), w)) else (bnd (newB z39 39 w) fun out_1 w_2 =>
  bnd (digest_Base64_l0 K K b0 out_1 w_2) fun y_17 w_18 =>
  bnd (strings_Builder_String (some out_1) w_18) fun r_19 w_20 =>
  some ((r_19.1, ()), w_20))
theorem digest_Base64_l1_ok (K : Nat) (n : Nat) : StmtNOk prog [(0, .sl), (3, .addr), (5, .int .i64), (6, .int .u64), (33, .int .i64)] [] [(7, 8), (33, 49)] ((fun n x w => digest_Base64_l1 K n x.1 x.2.1 x.2.2.1 x.2.2.2.1 x.2.2.2.2.1 w) n) (.block 2 (.loop (cd (bodyOf f13) [1, 1, 1, 0, 0, 0, 1, 0, 1, 1, 1, 1, 1, 0, 0]))) :=
    mk_loopN (O := tabL []) (root := (bodyOf f13)) (π := [1, 1, 1, 0, 0, 0, 1, 0, 1, 1, 1, 1, 1, 0, 0]) (id := 2) (Li := [(0, .sl), (3, .addr), (5, .int .i64), (6, .int .u64), (33, .int .i64)]) (Lo := []) (S := (fun n x w => digest_Base64_l1 K n x.1 x.2.1 x.2.2.1 x.2.2.2.1 x.2.2.2.2.1 w)) (body := cd (bodyOf f13) [1, 1, 1, 0, 0, 0, 1, 0, 1, 1, 1, 1, 1, 0, 0]) (digest_Base64_Eok K) (digest_Base64_Rok K) rfl (Orc.nil _ _ _) (by kernel_rfl) (fun _ _ => by kernel_rfl) (fun _ _ _ => by kernel_rfl) n
noncomputable def digest_Base64_l1_se (K : Nat) : SE := stmtN [(0, .sl), (3, .addr), (5, .int .i64), (6, .int .u64), (33, .int .i64)] [] [(7, 8), (33, 49)] (fun x w => digest_Base64_l1 K K x.1 x.2.1 x.2.2.1 x.2.2.2.1 x.2.2.2.2.1 w)
theorem digest_Base64_l1_se_ok (K : Nat) (R : Rg) (h : subRB [(7, 8), (33, 49)] R = true) : (digest_Base64_l1_se K).Ok prog R (.block 2 (.loop (cd (bodyOf f13) [1, 1, 1, 0, 0, 0, 1, 0, 1, 1, 1, 1, 1, 0, 0]))) := stmtN_ok (Li := [(0, .sl), (3, .addr), (5, .int .i64), (6, .int .u64), (33, .int .i64)]) (Lo := []) (S := (fun x w => digest_Base64_l1 K K x.1 x.2.1 x.2.2.1 x.2.2.2.1 x.2.2.2.2.1 w)) (digest_Base64_l1_ok K K) (subR_of h)
theorem digest_Base64_l0_ok (K : Nat) (n : Nat) : StmtNOk prog [(0, .sl), (3, .addr)] [] [(0, 1), (4, 8), (11, 49)] ((fun n x w => digest_Base64_l0 K n x.1 x.2.1 w) n) (.block 0 (.loop (cd (bodyOf f13) [1, 1, 1, 0, 0, 0]))) :=
    mk_loopN (O := tabL [([1, 1, 1, 0, 0, 0, 1, 0, 1, 1, 1, 1, 1], digest_Base64_l1_se K)]) (root := (bodyOf f13)) (π := [1, 1, 1, 0, 0, 0]) (id := 0) (Li := [(0, .sl), (3, .addr)]) (Lo := []) (S := (fun n x w => digest_Base64_l0 K n x.1 x.2.1 w)) (body := cd (bodyOf f13) [1, 1, 1, 0, 0, 0]) (digest_Base64_Eok K) (digest_Base64_Rok K) rfl (Orc.cons (by kernel_rfl) (digest_Base64_l1_se_ok K [(0, 1), (4, 8), (11, 49)] (by kernel_rfl)) (Orc.nil _ _ _)) (by kernel_rfl) (fun _ _ => by kernel_rfl) (fun _ _ _ => by kernel_rfl) n
noncomputable def digest_Base64_l0_se (K : Nat) : SE := stmtN [(0, .sl), (3, .addr)] [] [(0, 1), (4, 8), (11, 49)] (fun x w => digest_Base64_l0 K K x.1 x.2.1 w)
theorem digest_Base64_l0_se_ok (K : Nat) (R : Rg) (h : subRB [(0, 1), (4, 8), (11, 49)] R = true) : (digest_Base64_l0_se K).Ok prog R (.block 0 (.loop (cd (bodyOf f13) [1, 1, 1, 0, 0, 0]))) := stmtN_ok (Li := [(0, .sl), (3, .addr)]) (Lo := []) (S := (fun x w => digest_Base64_l0 K K x.1 x.2.1 w)) (digest_Base64_l0_ok K K) (subR_of h)
theorem digest_Base64_facts : FunFacts prog 13 f13 (bodyOf f13) [(0, .sl)] [(0, 50)] := ⟨func13, by kernel_rfl, by kernel_rfl, by kernel_rfl, by kernel_rfl, by kernel_rfl⟩
theorem digest_Base64_calls (K : Nat) (x : TT [(0, .sl)]) (w : World) (y : TR [.str]) (w2 : World) (h : digest_Base64 K x.1 w = some (y, w2)) : Calls prog 13 (encA [(0, .sl)] x).toArray w (fun e w3 => e = .returned (resV (encR [.str] y)) ∧ w3 = w2) :=
    mk_fun (O := tabL [([1, 1, 1, 0], digest_Base64_l0_se K), ([1, 1, 1, 0, 0, 0, 1, 0, 1, 1, 1, 1, 1], digest_Base64_l1_se K)]) (Lp := [(0, .sl)]) (Rt := [.str]) (S := (fun x w => digest_Base64 K x.1 w)) (digest_Base64_Eok K) (digest_Base64_Rok K) rfl digest_Base64_facts (Orc.cons (by kernel_rfl) (digest_Base64_l0_se_ok K [(0, 50)] (by kernel_rfl)) (Orc.cons (by kernel_rfl) (digest_Base64_l1_se_ok K [(0, 50)] (by kernel_rfl)) (Orc.nil _ _ _))) (fun _ _ => by kernel_rfl) x w y w2 h
noncomputable def digest_Base64_ce (K : Nat) : CE := funE [(0, .sl)] [.str] (fun x w => digest_Base64 K x.1 w)
theorem digest_Base64_ok (K : Nat) : (digest_Base64_ce K).Ok prog 13 := funE_ok (Rt := [.str]) (S := (fun x w => digest_Base64 K x.1 w)) digest_Base64_facts fun x w y w2 h => digest_Base64_calls K x w y w2 h

noncomputable def strings_IndexByte_R : List (Nat × RE) := [(33, stringslite_IndexByte_re)]
theorem strings_IndexByte_Rok : REnv.Ok prog (tab (strings_IndexByte_R)) := (REnv.cons (stringslite_IndexByte_ok) (REnv.nil _))
/-- strings.IndexByte -/
noncomputable def strings_IndexByte (s0 : ByteArray) (c1 : Int) : Option (Int × Unit) :=
  (stringslite_IndexByte s0 c1).bind fun r_1 =>
  some (r_1.1, ())
theorem strings_IndexByte_facts : FunFacts prog 24 f24 (bodyOf f24) [(0, .str), (1, .int .u8)] [(0, 8)] := ⟨func24, by kernel_rfl, by kernel_rfl, by kernel_rfl, by kernel_rfl, by kernel_rfl⟩
theorem strings_IndexByte_calls (x : TT [(0, .str), (1, .int .u8)]) (w : World) (y : TR [.int .i64]) (h : strings_IndexByte x.1 x.2.1 = some y) : Calls prog 24 (encA [(0, .str), (1, .int .u8)] x).toArray w (fun e w3 => e = .returned (resV (encR [.int .i64] y)) ∧ w3 = w) :=
    mk_funQ (O := tabL []) (Lp := [(0, .str), (1, .int .u8)]) (Rt := [.int .i64]) (S := (fun x w => strings_IndexByte x.1 x.2.1)) (strings_IndexByte_Rok) strings_IndexByte_facts (OrcQ.nil _ _ _) (fun _ _ => by kernel_rfl) x w y h
noncomputable def strings_IndexByte_re : RE := funR [(0, .str), (1, .int .u8)] [.int .i64] (fun x w => strings_IndexByte x.1 x.2.1)
theorem strings_IndexByte_ok : (strings_IndexByte_re).Ok prog 24 := funR_ok (Rt := [.int .i64]) (S := (fun x w => strings_IndexByte x.1 x.2.1)) strings_IndexByte_facts fun x w y h => strings_IndexByte_calls x w y h

noncomputable def digest_FromHex_E (K : Nat) : List (Nat × CE) := []
theorem digest_FromHex_Eok (K : Nat) : Env.Ok prog (tab (digest_FromHex_E K)) := (Env.nil _)
noncomputable def digest_FromHex_R (K : Nat) : List (Nat × RE) := [(24, strings_IndexByte_re)]
theorem digest_FromHex_Rok (K : Nat) : REnv.Ok prog (tab (digest_FromHex_R K)) := (REnv.cons (strings_IndexByte_ok) (REnv.nil _))
noncomputable def digest_FromHex_s1 (K : Nat) (c7 : Int) (w : World) : Option ((Bool × Unit) × World) :=
  if (decide (c7 ≥ 65)) = true then (some (((decide (c7 ≤ 70)), ()), w)) else (some ((false, ()), w))
noncomputable def digest_FromHex_s2 (K : Nat) (c7 : Int) (a25 : Bool) (w : World) : Option ((Int × Unit) × World) :=
  if a25 = true then (some (((IntKind.u8.wrap (c7 + 32)), ()), w)) else (some ((c7, ()), w))
noncomputable def digest_FromHex_l0_b (K : Nat) (rec : ByteArray → Sl → Int → Int → World → Option ((Out (Sl × Unit) (Sl × Int × Int × Unit)) × World)) (s0 : ByteArray) (out5 : Sl) (a13 : Int) (a14 : Int) (w : World) : Option ((Out (Sl × Unit) (Sl × Int × Int × Unit)) × World) :=
  if (decide (a14 < a13)) = true then (if (0 : Int) ≤ a14 then ((s0[(Int.toNat a14)]?).bind fun b_1 =>
  bnd (digest_FromHex_s1 K ((b_1.toNat : Nat) : Int) w) fun y_2 w_3 =>
  bnd (digest_FromHex_s2 K ((b_1.toNat : Nat) : Int) y_2.1 w_3) fun y_4 w_5 =>
  (strings_IndexByte str1 y_4.1).bind fun r_6 =>
  if (decide (r_6.1 < 0)) = true then (some (.ret (⟨none, 0, 0⟩, 13, a14, ()), w_5)) else (if ((Int.tmod a14 2) == 0) = true then (bnd (bldS prog 25 1 #[(0, (.int .u8 (IntKind.u8.wrap ((IntKind.u8.wrap r_6.1) * 2 ^ 4))))] w_5) fun s_7 w_8 =>
  bnd (apd prog 25 25 (.slice out5.a out5.len out5.cap) (.slice s_7.a s_7.len s_7.cap) w_8) fun s_9 w_10 =>
  rec s0 s_9 a13 (IntKind.i64.wrap (a14 + 1)) w_10) else ((out5.a).bind fun p_11 =>
  if (0 : Int) ≤ (IntKind.i64.wrap (Int.tdiv a14 2)) ∧ (IntKind.i64.wrap (Int.tdiv a14 2)) < ((out5.len : Nat) : Int) then ((ldI .u8 (p_11.add ((Int.toNat (IntKind.i64.wrap (Int.tdiv a14 2))) * 1)) w_5).bind fun v_12 =>
  (out5.a).bind fun p_13 =>
  if (0 : Int) ≤ (IntKind.i64.wrap (Int.tdiv a14 2)) ∧ (IntKind.i64.wrap (Int.tdiv a14 2)) < ((out5.len : Nat) : Int) then ((stC (p_13.add ((Int.toNat (IntKind.i64.wrap (Int.tdiv a14 2))) * 1)) (.int .u8 (bits .or .u8 v_12 (IntKind.u8.wrap r_6.1))) w_5).bind fun w_14 =>
  rec s0 out5 a13 (IntKind.i64.wrap (a14 + 1)) w_14) else none) else none))) else none) else (some (.norm (out5, ()), w))
noncomputable def digest_FromHex_l0 (K : Nat) (n : Nat) : ByteArray → Sl → Int → Int → World → Option ((Out (Sl × Unit) (Sl × Int × Int × Unit)) × World) := iter (fun _ _ _ _ _ => none) (digest_FromHex_l0_b K) n
/-- coffer/digest.FromHex -/
noncomputable def digest_FromHex (K : Nat) (s0 : ByteArray) (w : World) : Option ((Sl × Int × Int × Unit) × World) :=
  if (decide (((s0.size : Nat) : Int) > 16777216)) = true then (some ((⟨none, 0, 0⟩, 4, 0, ()), w)) else (bnd (digest_FromHex_l0 K K s0 ⟨none, 0, 0⟩ ((s0.size : Nat) : Int) 0 w) fun y_15 w_16 =>
  (match y_15 with
  | .norm z_17n => (if ((Int.tmod ((s0.size : Nat) : Int) 2) != 0) = true then (some ((⟨none, 0, 0⟩, 13, ((s0.size : Nat) : Int), ()), w_16)) else (some ((z_17n.1, 0, 0, ()), w_16)))
  | .ret z_17r => (some ((z_17r.1, z_17r.2.1, z_17r.2.2.1, ()), w_16))))
theorem digest_FromHex_s1_ok (K : Nat) : StmtNOk prog [(7, .int .u8)] [(25, .bool)] [(20, 26)] (fun x w => digest_FromHex_s1 K x.1 w) (cd (bodyOf f14) [1, 1, 1, 0, 1, 0, 0, 1, 1, 0, 0, 1, 1, 0, 0]) :=
    mk_stmtN (O := tabL []) (root := (bodyOf f14)) (π := [1, 1, 1, 0, 1, 0, 0, 1, 1, 0, 0, 1, 1, 0, 0]) (Li := [(7, .int .u8)]) (Lo := [(25, .bool)]) (S := (fun x w => digest_FromHex_s1 K x.1 w)) (digest_FromHex_Eok K) (digest_FromHex_Rok K) rfl (Orc.nil _ _ _) (by kernel_rfl) (fun _ _ => by kernel_rfl)
noncomputable def digest_FromHex_s1_se (K : Nat) : SE := stmtN [(7, .int .u8)] [(25, .bool)] [(20, 26)] (fun x w => digest_FromHex_s1 K x.1 w)
theorem digest_FromHex_s1_se_ok (K : Nat) (R : Rg) (h : subRB [(20, 26)] R = true) : (digest_FromHex_s1_se K).Ok prog R (cd (bodyOf f14) [1, 1, 1, 0, 1, 0, 0, 1, 1, 0, 0, 1, 1, 0, 0]) := stmtN_ok (Li := [(7, .int .u8)]) (Lo := [(25, .bool)]) (S := (fun x w => digest_FromHex_s1 K x.1 w)) (digest_FromHex_s1_ok K) (subR_of h)
theorem digest_FromHex_s2_ok (K : Nat) : StmtNOk prog [(7, .int .u8), (25, .bool)] [(7, .int .u8)] [(7, 8), (26, 28)] (fun x w => digest_FromHex_s2 K x.1 x.2.1 w) (cd (bodyOf f14) [1, 1, 1, 0, 1, 0, 0, 1, 1, 0, 0, 1, 1, 0, 1]) :=
    mk_stmtN (O := tabL []) (root := (bodyOf f14)) (π := [1, 1, 1, 0, 1, 0, 0, 1, 1, 0, 0, 1, 1, 0, 1]) (Li := [(7, .int .u8), (25, .bool)]) (Lo := [(7, .int .u8)]) (S := (fun x w => digest_FromHex_s2 K x.1 x.2.1 w)) (digest_FromHex_Eok K) (digest_FromHex_Rok K) rfl (Orc.nil _ _ _) (by kernel_rfl) (fun _ _ => by kernel_rfl)
noncomputable def digest_FromHex_s2_se (K : Nat) : SE := stmtN [(7, .int .u8), (25, .bool)] [(7, .int .u8)] [(7, 8), (26, 28)] (fun x w => digest_FromHex_s2 K x.1 x.2.1 w)
theorem digest_FromHex_s2_se_ok (K : Nat) (R : Rg) (h : subRB [(7, 8), (26, 28)] R = true) : (digest_FromHex_s2_se K).Ok prog R (cd (bodyOf f14) [1, 1, 1, 0, 1, 0, 0, 1, 1, 0, 0, 1, 1, 0, 1]) := stmtN_ok (Li := [(7, .int .u8), (25, .bool)]) (Lo := [(7, .int .u8)]) (S := (fun x w => digest_FromHex_s2 K x.1 x.2.1 w)) (digest_FromHex_s2_ok K) (subR_of h)
theorem digest_FromHex_l0_ok (K : Nat) (n : Nat) : StmtOk prog [(0, .str), (5, .sl), (13, .int .i64), (14, .int .i64)] [(5, .sl)] [(2, .sl), (3, .int .i64), (4, .int .i64)] [(2, 9), (14, 52)] ((fun n x w => digest_FromHex_l0 K n x.1 x.2.1 x.2.2.1 x.2.2.2.1 w) n) (.block 0 (.loop (cd (bodyOf f14) [1, 1, 1, 0, 1, 0, 0]))) :=
    mk_loop (O := tabL [([1, 1, 1, 0, 1, 0, 0, 1, 1, 0, 0, 1, 1, 0, 0], digest_FromHex_s1_se K), ([1, 1, 1, 0, 1, 0, 0, 1, 1, 0, 0, 1, 1, 0, 1], digest_FromHex_s2_se K)]) (root := (bodyOf f14)) (π := [1, 1, 1, 0, 1, 0, 0]) (id := 0) (Li := [(0, .str), (5, .sl), (13, .int .i64), (14, .int .i64)]) (Lo := [(5, .sl)]) (Lr := [(2, .sl), (3, .int .i64), (4, .int .i64)]) (S := (fun n x w => digest_FromHex_l0 K n x.1 x.2.1 x.2.2.1 x.2.2.2.1 w)) (body := cd (bodyOf f14) [1, 1, 1, 0, 1, 0, 0]) (digest_FromHex_Eok K) (digest_FromHex_Rok K) rfl (Orc.cons (by kernel_rfl) (digest_FromHex_s1_se_ok K [(2, 9), (14, 52)] (by kernel_rfl)) (Orc.cons (by kernel_rfl) (digest_FromHex_s2_se_ok K [(2, 9), (14, 52)] (by kernel_rfl)) (Orc.nil _ _ _))) (by kernel_rfl) (fun _ _ => by kernel_rfl) (fun _ _ _ => by kernel_rfl) n
noncomputable def digest_FromHex_l0_se (K : Nat) : SE := stmt [(0, .str), (5, .sl), (13, .int .i64), (14, .int .i64)] [(5, .sl)] [(2, .sl), (3, .int .i64), (4, .int .i64)] [(2, 9), (14, 52)] (fun x w => digest_FromHex_l0 K K x.1 x.2.1 x.2.2.1 x.2.2.2.1 w)
theorem digest_FromHex_l0_se_ok (K : Nat) (R : Rg) (h : subRB [(2, 9), (14, 52)] R = true) : (digest_FromHex_l0_se K).Ok prog R (.block 0 (.loop (cd (bodyOf f14) [1, 1, 1, 0, 1, 0, 0]))) := stmt_ok (Li := [(0, .str), (5, .sl), (13, .int .i64), (14, .int .i64)]) (Lo := [(5, .sl)]) (Lr := [(2, .sl), (3, .int .i64), (4, .int .i64)]) (S := (fun x w => digest_FromHex_l0 K K x.1 x.2.1 x.2.2.1 x.2.2.2.1 w)) (digest_FromHex_l0_ok K K) (subR_of h)
theorem digest_FromHex_facts : FunFacts prog 14 f14 (bodyOf f14) [(0, .str)] [(0, 59)] := ⟨func14, by kernel_rfl, by kernel_rfl, by kernel_rfl, by kernel_rfl, by kernel_rfl⟩
theorem digest_FromHex_calls (K : Nat) (x : TT [(0, .str)]) (w : World) (y : TR [.sl, .int .i64, .int .i64]) (w2 : World) (h : digest_FromHex K x.1 w = some (y, w2)) : Calls prog 14 (encA [(0, .str)] x).toArray w (fun e w3 => e = .returned (resV (encR [.sl, .int .i64, .int .i64] y)) ∧ w3 = w2) :=
    mk_fun (O := tabL [([1, 1, 1, 0, 1], digest_FromHex_l0_se K), ([1, 1, 1, 0, 1, 0, 0, 1, 1, 0, 0, 1, 1, 0, 0], digest_FromHex_s1_se K), ([1, 1, 1, 0, 1, 0, 0, 1, 1, 0, 0, 1, 1, 0, 1], digest_FromHex_s2_se K)]) (Lp := [(0, .str)]) (Rt := [.sl, .int .i64, .int .i64]) (S := (fun x w => digest_FromHex K x.1 w)) (digest_FromHex_Eok K) (digest_FromHex_Rok K) rfl digest_FromHex_facts (Orc.cons (by kernel_rfl) (digest_FromHex_l0_se_ok K [(0, 59)] (by kernel_rfl)) (Orc.cons (by kernel_rfl) (digest_FromHex_s1_se_ok K [(0, 59)] (by kernel_rfl)) (Orc.cons (by kernel_rfl) (digest_FromHex_s2_se_ok K [(0, 59)] (by kernel_rfl)) (Orc.nil _ _ _)))) (fun _ _ => by kernel_rfl) x w y w2 h
noncomputable def digest_FromHex_ce (K : Nat) : CE := funE [(0, .str)] [.sl, .int .i64, .int .i64] (fun x w => digest_FromHex K x.1 w)
theorem digest_FromHex_ok (K : Nat) : (digest_FromHex_ce K).Ok prog 14 := funE_ok (Rt := [.sl, .int .i64, .int .i64]) (S := (fun x w => digest_FromHex K x.1 w)) digest_FromHex_facts fun x w y w2 h => digest_FromHex_calls K x w y w2 h

noncomputable def digest_worth_R : List (Nat × RE) := [(24, strings_IndexByte_re)]
theorem digest_worth_Rok : REnv.Ok prog (tab (digest_worth_R)) := (REnv.cons (strings_IndexByte_ok) (REnv.nil _))
/-- coffer/digest.worth -/
noncomputable def digest_worth (c0 : Int) : Option (Int × Unit) :=
  (strings_IndexByte str2 c0).bind fun r_1 =>
  if (decide (r_1.1 ≥ 0)) = true then (some ((IntKind.u8.wrap r_1.1), ())) else (some (64, ()))
theorem digest_worth_facts : FunFacts prog 25 f25 (bodyOf f25) [(0, .int .u8)] [(0, 10)] := ⟨func25, by kernel_rfl, by kernel_rfl, by kernel_rfl, by kernel_rfl, by kernel_rfl⟩
theorem digest_worth_calls (x : TT [(0, .int .u8)]) (w : World) (y : TR [.int .u8]) (h : digest_worth x.1 = some y) : Calls prog 25 (encA [(0, .int .u8)] x).toArray w (fun e w3 => e = .returned (resV (encR [.int .u8] y)) ∧ w3 = w) :=
    mk_funQ (O := tabL []) (Lp := [(0, .int .u8)]) (Rt := [.int .u8]) (S := (fun x w => digest_worth x.1)) (digest_worth_Rok) digest_worth_facts (OrcQ.nil _ _ _) (fun _ _ => by kernel_rfl) x w y h
noncomputable def digest_worth_re : RE := funR [(0, .int .u8)] [.int .u8] (fun x w => digest_worth x.1)
theorem digest_worth_ok : (digest_worth_re).Ok prog 25 := funR_ok (Rt := [.int .u8]) (S := (fun x w => digest_worth x.1)) digest_worth_facts fun x w y h => digest_worth_calls x w y h

end Go.Sh

/- What functions of the program do, as Lean functions; that the machine does just that. Printed by shal.py, a program of this claim's writer. -/
set_option maxRecDepth 100000
set_option linter.unusedVariables false
namespace Go.Sh
open Go.Fw Go.Proofs.Try

noncomputable def digest_FromBase64_E (K : Nat) : List (Nat × CE) := []
theorem digest_FromBase64_Eok (K : Nat) : Env.Ok prog (tab (digest_FromBase64_E K)) := (Env.nil _)
noncomputable def digest_FromBase64_R (K : Nat) : List (Nat × RE) := [(25, digest_worth_re)]
theorem digest_FromBase64_Rok (K : Nat) : REnv.Ok prog (tab (digest_FromBase64_R K)) := (REnv.cons (digest_worth_ok) (REnv.nil _))
noncomputable def digest_FromBase64_s2 (K : Nat) (v6 : Int) (k10 : Int) (w : World) : Option ((Bool × Unit) × World) :=
  if (k10 == 2) = true then (some ((((bits .and .u64 v6 15) == 0), ()), w)) else (some ((false, ()), w))
noncomputable def digest_FromBase64_s3 (K : Nat) (v6 : Int) (k10 : Int) (w : World) : Option ((Bool × Unit) × World) :=
  if (k10 == 3) = true then (some ((((bits .and .u64 v6 3) == 0), ()), w)) else (some ((false, ()), w))
noncomputable def digest_FromBase64_s1 (K : Nat) (out5 : Sl) (v6 : Int) (ended7 : Int) (c9 : Int) (k10 : Int) (bad11 : Bool) (w : World) : Option ((Sl × Int × Int × Bool × Unit) × World) :=
  if (ended7 == 3) = true then (some ((out5, v6, ended7, true, ()), w)) else (if (decide (ended7 > 0)) = true then (some ((out5, v6, 3, (c9 != 61), ()), w)) else (if (c9 != 61) = true then ((digest_worth c9).bind fun r_2 =>
  (digest_worth c9).bind fun r_3 =>
  if (k10 == 3) = true then (bnd (bldS prog 25 3 #[(0, (.int .u8 (IntKind.u8.wrap (Int.fdiv (bits .or .u64 (IntKind.u64.wrap (v6 * 2 ^ 6)) (IntKind.u64.wrap (bits .and .u8 r_3.1 63))) (2 ^ 16))))), (1, (.int .u8 (IntKind.u8.wrap (Int.fdiv (bits .or .u64 (IntKind.u64.wrap (v6 * 2 ^ 6)) (IntKind.u64.wrap (bits .and .u8 r_3.1 63))) (2 ^ 8))))), (2, (.int .u8 (IntKind.u8.wrap (bits .or .u64 (IntKind.u64.wrap (v6 * 2 ^ 6)) (IntKind.u64.wrap (bits .and .u8 r_3.1 63))))))] w) fun s_4 w_5 =>
  bnd (apd prog 25 25 (.slice out5.a out5.len out5.cap) (.slice s_4.a s_4.len s_4.cap) w_5) fun s_6 w_7 =>
  some ((s_6, 0, ended7, (r_2.1 == 64), ()), w_7)) else (some ((out5, (bits .or .u64 (IntKind.u64.wrap (v6 * 2 ^ 6)) (IntKind.u64.wrap (bits .and .u8 r_3.1 63))), ended7, (r_2.1 == 64), ()), w))) else (bnd (digest_FromBase64_s2 K v6 k10 w) fun y_8 w_9 =>
  if y_8.1 = true then (bnd (bldS prog 25 1 #[(0, (.int .u8 (IntKind.u8.wrap (Int.fdiv v6 (2 ^ 4)))))] w_9) fun s_10 w_11 =>
  bnd (apd prog 25 25 (.slice out5.a out5.len out5.cap) (.slice s_10.a s_10.len s_10.cap) w_11) fun s_12 w_13 =>
  some ((s_12, v6, 1, bad11, ()), w_13)) else (bnd (digest_FromBase64_s3 K v6 k10 w_9) fun y_14 w_15 =>
  if y_14.1 = true then (bnd (bldS prog 25 2 #[(0, (.int .u8 (IntKind.u8.wrap (Int.fdiv v6 (2 ^ 10))))), (1, (.int .u8 (IntKind.u8.wrap (Int.fdiv v6 (2 ^ 2)))))] w_15) fun s_16 w_17 =>
  bnd (apd prog 25 25 (.slice out5.a out5.len out5.cap) (.slice s_16.a s_16.len s_16.cap) w_17) fun s_18 w_19 =>
  some ((s_18, v6, 3, bad11, ()), w_19)) else (some ((out5, v6, ended7, true, ()), w_15))))))
noncomputable def digest_FromBase64_l0_b (K : Nat) (rec : ByteArray → Sl → Int → Int → Int → Int → World → Option ((Out (Sl × Unit) (Sl × Int × Int × Unit)) × World)) (s0 : ByteArray) (out5 : Sl) (v6 : Int) (ended7 : Int) (a16 : Int) (a17 : Int) (w : World) : Option ((Out (Sl × Unit) (Sl × Int × Int × Unit)) × World) :=
  if (decide (a17 < a16)) = true then (if (0 : Int) ≤ a17 then ((s0[(Int.toNat a17)]?).bind fun b_1 =>
  bnd (digest_FromBase64_s1 K out5 v6 ended7 ((b_1.toNat : Nat) : Int) (Int.tmod a17 4) false w) fun y_20 w_21 =>
  if y_20.2.2.2.1 = true then (some (.ret (⟨none, 0, 0⟩, 14, a17, ()), w_21)) else (rec s0 y_20.1 y_20.2.1 y_20.2.2.1 a16 (IntKind.i64.wrap (a17 + 1)) w_21)) else none) else (some (.norm (out5, ()), w))
noncomputable def digest_FromBase64_l0 (K : Nat) (n : Nat) : ByteArray → Sl → Int → Int → Int → Int → World → Option ((Out (Sl × Unit) (Sl × Int × Int × Unit)) × World) := iter (fun _ _ _ _ _ _ _ => none) (digest_FromBase64_l0_b K) n
/-- coffer/digest.FromBase64 -/
noncomputable def digest_FromBase64 (K : Nat) (s0 : ByteArray) (w : World) : Option ((Sl × Int × Int × Unit) × World) :=
  if (decide (((s0.size : Nat) : Int) > 16777216)) = true then (some ((⟨none, 0, 0⟩, 4, 0, ()), w)) else (bnd (digest_FromBase64_l0 K K s0 ⟨none, 0, 0⟩ 0 0 ((s0.size : Nat) : Int) 0 w) fun y_22 w_23 =>
  (match y_22 with
  | .norm z_24n => (if ((Int.tmod ((s0.size : Nat) : Int) 4) != 0) = true then (some ((⟨none, 0, 0⟩, 14, ((s0.size : Nat) : Int), ()), w_23)) else (some ((z_24n.1, 0, 0, ()), w_23)))
  | .ret z_24r => (some ((z_24r.1, z_24r.2.1, z_24r.2.2.1, ()), w_23))))
theorem digest_FromBase64_s2_ok (K : Nat) : StmtNOk prog [(6, .int .u64), (10, .int .i64)] [(59, .bool)] [(59, 67)] (fun x w => digest_FromBase64_s2 K x.1 x.2.1 w) (cd (bodyOf f15) [1, 1, 1, 1, 1, 0, 1, 0, 0, 1, 1, 0, 0, 1, 1, 1, 1, 0, 0, 1, 1, 1, 1, 1, 1, 0]) :=
    mk_stmtN (O := tabL []) (root := (bodyOf f15)) (π := [1, 1, 1, 1, 1, 0, 1, 0, 0, 1, 1, 0, 0, 1, 1, 1, 1, 0, 0, 1, 1, 1, 1, 1, 1, 0]) (Li := [(6, .int .u64), (10, .int .i64)]) (Lo := [(59, .bool)]) (S := (fun x w => digest_FromBase64_s2 K x.1 x.2.1 w)) (digest_FromBase64_Eok K) (digest_FromBase64_Rok K) rfl (Orc.nil _ _ _) (by kernel_rfl) (fun _ _ => by kernel_rfl)
noncomputable def digest_FromBase64_s2_se (K : Nat) : SE := stmtN [(6, .int .u64), (10, .int .i64)] [(59, .bool)] [(59, 67)] (fun x w => digest_FromBase64_s2 K x.1 x.2.1 w)
theorem digest_FromBase64_s2_se_ok (K : Nat) (R : Rg) (h : subRB [(59, 67)] R = true) : (digest_FromBase64_s2_se K).Ok prog R (cd (bodyOf f15) [1, 1, 1, 1, 1, 0, 1, 0, 0, 1, 1, 0, 0, 1, 1, 1, 1, 0, 0, 1, 1, 1, 1, 1, 1, 0]) := stmtN_ok (Li := [(6, .int .u64), (10, .int .i64)]) (Lo := [(59, .bool)]) (S := (fun x w => digest_FromBase64_s2 K x.1 x.2.1 w)) (digest_FromBase64_s2_ok K) (subR_of h)
theorem digest_FromBase64_s3_ok (K : Nat) : StmtNOk prog [(6, .int .u64), (10, .int .i64)] [(73, .bool)] [(73, 81)] (fun x w => digest_FromBase64_s3 K x.1 x.2.1 w) (cd (bodyOf f15) [1, 1, 1, 1, 1, 0, 1, 0, 0, 1, 1, 0, 0, 1, 1, 1, 1, 0, 0, 1, 1, 1, 1, 1, 1, 1, 1, 0]) :=
    mk_stmtN (O := tabL []) (root := (bodyOf f15)) (π := [1, 1, 1, 1, 1, 0, 1, 0, 0, 1, 1, 0, 0, 1, 1, 1, 1, 0, 0, 1, 1, 1, 1, 1, 1, 1, 1, 0]) (Li := [(6, .int .u64), (10, .int .i64)]) (Lo := [(73, .bool)]) (S := (fun x w => digest_FromBase64_s3 K x.1 x.2.1 w)) (digest_FromBase64_Eok K) (digest_FromBase64_Rok K) rfl (Orc.nil _ _ _) (by kernel_rfl) (fun _ _ => by kernel_rfl)
noncomputable def digest_FromBase64_s3_se (K : Nat) : SE := stmtN [(6, .int .u64), (10, .int .i64)] [(73, .bool)] [(73, 81)] (fun x w => digest_FromBase64_s3 K x.1 x.2.1 w)
theorem digest_FromBase64_s3_se_ok (K : Nat) (R : Rg) (h : subRB [(73, 81)] R = true) : (digest_FromBase64_s3_se K).Ok prog R (cd (bodyOf f15) [1, 1, 1, 1, 1, 0, 1, 0, 0, 1, 1, 0, 0, 1, 1, 1, 1, 0, 0, 1, 1, 1, 1, 1, 1, 1, 1, 0]) := stmtN_ok (Li := [(6, .int .u64), (10, .int .i64)]) (Lo := [(73, .bool)]) (S := (fun x w => digest_FromBase64_s3 K x.1 x.2.1 w)) (digest_FromBase64_s3_ok K) (subR_of h)
theorem digest_FromBase64_s1_ok (K : Nat) : StmtNOk prog [(5, .sl), (6, .int .u64), (7, .int .i64), (9, .int .u8), (10, .int .i64), (11, .bool)] [(5, .sl), (6, .int .u64), (7, .int .i64), (11, .bool)] [(5, 8), (11, 12), (25, 90)] (fun x w => digest_FromBase64_s1 K x.1 x.2.1 x.2.2.1 x.2.2.2.1 x.2.2.2.2.1 x.2.2.2.2.2.1 w) (cd (bodyOf f15) [1, 1, 1, 1, 1, 0, 1, 0, 0, 1, 1, 0, 0, 1, 1, 1, 1, 0]) :=
    mk_stmtN (O := tabL [([1, 1, 1, 1, 1, 0, 1, 0, 0, 1, 1, 0, 0, 1, 1, 1, 1, 0, 0, 1, 1, 1, 1, 1, 1, 0], digest_FromBase64_s2_se K), ([1, 1, 1, 1, 1, 0, 1, 0, 0, 1, 1, 0, 0, 1, 1, 1, 1, 0, 0, 1, 1, 1, 1, 1, 1, 1, 1, 0], digest_FromBase64_s3_se K)]) (root := (bodyOf f15)) (π := [1, 1, 1, 1, 1, 0, 1, 0, 0, 1, 1, 0, 0, 1, 1, 1, 1, 0]) (Li := [(5, .sl), (6, .int .u64), (7, .int .i64), (9, .int .u8), (10, .int .i64), (11, .bool)]) (Lo := [(5, .sl), (6, .int .u64), (7, .int .i64), (11, .bool)]) (S := (fun x w => digest_FromBase64_s1 K x.1 x.2.1 x.2.2.1 x.2.2.2.1 x.2.2.2.2.1 x.2.2.2.2.2.1 w)) (digest_FromBase64_Eok K) (digest_FromBase64_Rok K) rfl (Orc.cons (by kernel_rfl) (digest_FromBase64_s2_se_ok K [(5, 8), (11, 12), (25, 90)] (by kernel_rfl)) (Orc.cons (by kernel_rfl) (digest_FromBase64_s3_se_ok K [(5, 8), (11, 12), (25, 90)] (by kernel_rfl)) (Orc.nil _ _ _))) (by kernel_rfl) (fun _ _ => by kernel_rfl)
noncomputable def digest_FromBase64_s1_se (K : Nat) : SE := stmtN [(5, .sl), (6, .int .u64), (7, .int .i64), (9, .int .u8), (10, .int .i64), (11, .bool)] [(5, .sl), (6, .int .u64), (7, .int .i64), (11, .bool)] [(5, 8), (11, 12), (25, 90)] (fun x w => digest_FromBase64_s1 K x.1 x.2.1 x.2.2.1 x.2.2.2.1 x.2.2.2.2.1 x.2.2.2.2.2.1 w)
theorem digest_FromBase64_s1_se_ok (K : Nat) (R : Rg) (h : subRB [(5, 8), (11, 12), (25, 90)] R = true) : (digest_FromBase64_s1_se K).Ok prog R (cd (bodyOf f15) [1, 1, 1, 1, 1, 0, 1, 0, 0, 1, 1, 0, 0, 1, 1, 1, 1, 0]) := stmtN_ok (Li := [(5, .sl), (6, .int .u64), (7, .int .i64), (9, .int .u8), (10, .int .i64), (11, .bool)]) (Lo := [(5, .sl), (6, .int .u64), (7, .int .i64), (11, .bool)]) (S := (fun x w => digest_FromBase64_s1 K x.1 x.2.1 x.2.2.1 x.2.2.2.1 x.2.2.2.2.1 x.2.2.2.2.2.1 w)) (digest_FromBase64_s1_ok K) (subR_of h)
theorem digest_FromBase64_l0_ok (K : Nat) (n : Nat) : StmtOk prog [(0, .str), (5, .sl), (6, .int .u64), (7, .int .i64), (16, .int .i64), (17, .int .i64)] [(5, .sl)] [(2, .sl), (3, .int .i64), (4, .int .i64)] [(2, 12), (17, 93)] ((fun n x w => digest_FromBase64_l0 K n x.1 x.2.1 x.2.2.1 x.2.2.2.1 x.2.2.2.2.1 x.2.2.2.2.2.1 w) n) (.block 0 (.loop (cd (bodyOf f15) [1, 1, 1, 1, 1, 0, 1, 0, 0]))) :=
    mk_loop (O := tabL [([1, 1, 1, 1, 1, 0, 1, 0, 0, 1, 1, 0, 0, 1, 1, 1, 1, 0], digest_FromBase64_s1_se K), ([1, 1, 1, 1, 1, 0, 1, 0, 0, 1, 1, 0, 0, 1, 1, 1, 1, 0, 0, 1, 1, 1, 1, 1, 1, 0], digest_FromBase64_s2_se K), ([1, 1, 1, 1, 1, 0, 1, 0, 0, 1, 1, 0, 0, 1, 1, 1, 1, 0, 0, 1, 1, 1, 1, 1, 1, 1, 1, 0], digest_FromBase64_s3_se K)]) (root := (bodyOf f15)) (π := [1, 1, 1, 1, 1, 0, 1, 0, 0]) (id := 0) (Li := [(0, .str), (5, .sl), (6, .int .u64), (7, .int .i64), (16, .int .i64), (17, .int .i64)]) (Lo := [(5, .sl)]) (Lr := [(2, .sl), (3, .int .i64), (4, .int .i64)]) (S := (fun n x w => digest_FromBase64_l0 K n x.1 x.2.1 x.2.2.1 x.2.2.2.1 x.2.2.2.2.1 x.2.2.2.2.2.1 w)) (body := cd (bodyOf f15) [1, 1, 1, 1, 1, 0, 1, 0, 0]) (digest_FromBase64_Eok K) (digest_FromBase64_Rok K) rfl (Orc.cons (by kernel_rfl) (digest_FromBase64_s1_se_ok K [(2, 12), (17, 93)] (by kernel_rfl)) (Orc.cons (by kernel_rfl) (digest_FromBase64_s2_se_ok K [(2, 12), (17, 93)] (by kernel_rfl)) (Orc.cons (by kernel_rfl) (digest_FromBase64_s3_se_ok K [(2, 12), (17, 93)] (by kernel_rfl)) (Orc.nil _ _ _)))) (by kernel_rfl) (fun _ _ => by kernel_rfl) (fun _ _ _ => by kernel_rfl) n
noncomputable def digest_FromBase64_l0_se (K : Nat) : SE := stmt [(0, .str), (5, .sl), (6, .int .u64), (7, .int .i64), (16, .int .i64), (17, .int .i64)] [(5, .sl)] [(2, .sl), (3, .int .i64), (4, .int .i64)] [(2, 12), (17, 93)] (fun x w => digest_FromBase64_l0 K K x.1 x.2.1 x.2.2.1 x.2.2.2.1 x.2.2.2.2.1 x.2.2.2.2.2.1 w)
theorem digest_FromBase64_l0_se_ok (K : Nat) (R : Rg) (h : subRB [(2, 12), (17, 93)] R = true) : (digest_FromBase64_l0_se K).Ok prog R (.block 0 (.loop (cd (bodyOf f15) [1, 1, 1, 1, 1, 0, 1, 0, 0]))) := stmt_ok (Li := [(0, .str), (5, .sl), (6, .int .u64), (7, .int .i64), (16, .int .i64), (17, .int .i64)]) (Lo := [(5, .sl)]) (Lr := [(2, .sl), (3, .int .i64), (4, .int .i64)]) (S := (fun x w => digest_FromBase64_l0 K K x.1 x.2.1 x.2.2.1 x.2.2.2.1 x.2.2.2.2.1 x.2.2.2.2.2.1 w)) (digest_FromBase64_l0_ok K K) (subR_of h)
theorem digest_FromBase64_facts : FunFacts prog 15 f15 (bodyOf f15) [(0, .str)] [(0, 100)] := ⟨func15, by kernel_rfl, by kernel_rfl, by kernel_rfl, by kernel_rfl, by kernel_rfl⟩
theorem digest_FromBase64_calls (K : Nat) (x : TT [(0, .str)]) (w : World) (y : TR [.sl, .int .i64, .int .i64]) (w2 : World) (h : digest_FromBase64 K x.1 w = some (y, w2)) : Calls prog 15 (encA [(0, .str)] x).toArray w (fun e w3 => e = .returned (resV (encR [.sl, .int .i64, .int .i64] y)) ∧ w3 = w2) :=
    mk_fun (O := tabL [([1, 1, 1, 1, 1, 0, 1], digest_FromBase64_l0_se K), ([1, 1, 1, 1, 1, 0, 1, 0, 0, 1, 1, 0, 0, 1, 1, 1, 1, 0], digest_FromBase64_s1_se K), ([1, 1, 1, 1, 1, 0, 1, 0, 0, 1, 1, 0, 0, 1, 1, 1, 1, 0, 0, 1, 1, 1, 1, 1, 1, 0], digest_FromBase64_s2_se K), ([1, 1, 1, 1, 1, 0, 1, 0, 0, 1, 1, 0, 0, 1, 1, 1, 1, 0, 0, 1, 1, 1, 1, 1, 1, 1, 1, 0], digest_FromBase64_s3_se K)]) (Lp := [(0, .str)]) (Rt := [.sl, .int .i64, .int .i64]) (S := (fun x w => digest_FromBase64 K x.1 w)) (digest_FromBase64_Eok K) (digest_FromBase64_Rok K) rfl digest_FromBase64_facts (Orc.cons (by kernel_rfl) (digest_FromBase64_l0_se_ok K [(0, 100)] (by kernel_rfl)) (Orc.cons (by kernel_rfl) (digest_FromBase64_s1_se_ok K [(0, 100)] (by kernel_rfl)) (Orc.cons (by kernel_rfl) (digest_FromBase64_s2_se_ok K [(0, 100)] (by kernel_rfl)) (Orc.cons (by kernel_rfl) (digest_FromBase64_s3_se_ok K [(0, 100)] (by kernel_rfl)) (Orc.nil _ _ _))))) (fun _ _ => by kernel_rfl) x w y w2 h
noncomputable def digest_FromBase64_ce (K : Nat) : CE := funE [(0, .str)] [.sl, .int .i64, .int .i64] (fun x w => digest_FromBase64 K x.1 w)
theorem digest_FromBase64_ok (K : Nat) : (digest_FromBase64_ce K).Ok prog 15 := funE_ok (Rt := [.sl, .int .i64, .int .i64]) (S := (fun x w => digest_FromBase64 K x.1 w)) digest_FromBase64_facts fun x w y w2 h => digest_FromBase64_calls K x w y w2 h

noncomputable def law01_small_E (K : Nat) : List (Nat × CE) := []
theorem law01_small_Eok (K : Nat) : Env.Ok prog (tab (law01_small_E K)) := (Env.nil _)
noncomputable def law01_small_R (K : Nat) : List (Nat × RE) := []
theorem law01_small_Rok (K : Nat) : REnv.Ok prog (tab (law01_small_R K)) := (REnv.nil _)
noncomputable def law01_small_s1 (K : Nat) (c5 : Int) (w : World) : Option ((Bool × Unit) × World) :=
  if (decide (c5 ≥ 65)) = true then (some (((decide (c5 ≤ 70)), ()), w)) else (some ((false, ()), w))
noncomputable def law01_small_s2 (K : Nat) (c5 : Int) (a20 : Bool) (w : World) : Option ((Int × Unit) × World) :=
  if a20 = true then (some (((IntKind.u8.wrap (c5 + 32)), ()), w)) else (some ((c5, ()), w))
noncomputable def law01_small_l0_b (K : Nat) (rec : ByteArray → Sl → Int → World → Option ((Sl × Unit) × World)) (s0 : ByteArray) (out3 : Sl) (i4 : Int) (w : World) : Option ((Sl × Unit) × World) :=
  if (decide (i4 < ((s0.size : Nat) : Int))) = true then (if (0 : Int) ≤ i4 then ((s0[(Int.toNat i4)]?).bind fun b_1 =>
  bnd (law01_small_s1 K ((b_1.toNat : Nat) : Int) w) fun y_2 w_3 =>
  bnd (law01_small_s2 K ((b_1.toNat : Nat) : Int) y_2.1 w_3) fun y_4 w_5 =>
  bnd (bldS prog 25 1 #[(0, (.int .u8 y_4.1))] w_5) fun s_6 w_7 =>
  bnd (apd prog 25 25 (.slice out3.a out3.len out3.cap) (.slice s_6.a s_6.len s_6.cap) w_7) fun s_8 w_9 =>
  rec s0 s_8 (IntKind.i64.wrap (i4 + 1)) w_9) else none) else (some ((out3, ()), w))
noncomputable def law01_small_l0 (K : Nat) (n : Nat) : ByteArray → Sl → Int → World → Option ((Sl × Unit) × World) := iter (fun _ _ _ _ => none) (law01_small_l0_b K) n
/-- coffer/cofferlaw01.small -/
noncomputable def law01_small (K : Nat) (s0 : ByteArray) (w : World) : Option ((ByteArray × Unit) × World) :=
  bnd (law01_small_l0 K K s0 ⟨none, 0, 0⟩ 0 w) fun y_10 w_11 =>
  bnd (b2s prog y_10.1.a y_10.1.len y_10.1.cap w_11) fun c_12 w_13 =>
  some ((c_12, ()), w_13)
theorem law01_small_s1_ok (K : Nat) : StmtNOk prog [(5, .int .u8)] [(20, .bool)] [(15, 21)] (fun x w => law01_small_s1 K x.1 w) (cd (bodyOf f16) [1, 1, 0, 1, 0, 0, 1, 0, 0, 1, 0, 0]) :=
    mk_stmtN (O := tabL []) (root := (bodyOf f16)) (π := [1, 1, 0, 1, 0, 0, 1, 0, 0, 1, 0, 0]) (Li := [(5, .int .u8)]) (Lo := [(20, .bool)]) (S := (fun x w => law01_small_s1 K x.1 w)) (law01_small_Eok K) (law01_small_Rok K) rfl (Orc.nil _ _ _) (by kernel_rfl) (fun _ _ => by kernel_rfl)
noncomputable def law01_small_s1_se (K : Nat) : SE := stmtN [(5, .int .u8)] [(20, .bool)] [(15, 21)] (fun x w => law01_small_s1 K x.1 w)
theorem law01_small_s1_se_ok (K : Nat) (R : Rg) (h : subRB [(15, 21)] R = true) : (law01_small_s1_se K).Ok prog R (cd (bodyOf f16) [1, 1, 0, 1, 0, 0, 1, 0, 0, 1, 0, 0]) := stmtN_ok (Li := [(5, .int .u8)]) (Lo := [(20, .bool)]) (S := (fun x w => law01_small_s1 K x.1 w)) (law01_small_s1_ok K) (subR_of h)
theorem law01_small_s2_ok (K : Nat) : StmtNOk prog [(5, .int .u8), (20, .bool)] [(5, .int .u8)] [(5, 6), (21, 23)] (fun x w => law01_small_s2 K x.1 x.2.1 w) (cd (bodyOf f16) [1, 1, 0, 1, 0, 0, 1, 0, 0, 1, 0, 1]) :=
    mk_stmtN (O := tabL []) (root := (bodyOf f16)) (π := [1, 1, 0, 1, 0, 0, 1, 0, 0, 1, 0, 1]) (Li := [(5, .int .u8), (20, .bool)]) (Lo := [(5, .int .u8)]) (S := (fun x w => law01_small_s2 K x.1 x.2.1 w)) (law01_small_Eok K) (law01_small_Rok K) rfl (Orc.nil _ _ _) (by kernel_rfl) (fun _ _ => by kernel_rfl)
noncomputable def law01_small_s2_se (K : Nat) : SE := stmtN [(5, .int .u8), (20, .bool)] [(5, .int .u8)] [(5, 6), (21, 23)] (fun x w => law01_small_s2 K x.1 x.2.1 w)
theorem law01_small_s2_se_ok (K : Nat) (R : Rg) (h : subRB [(5, 6), (21, 23)] R = true) : (law01_small_s2_se K).Ok prog R (cd (bodyOf f16) [1, 1, 0, 1, 0, 0, 1, 0, 0, 1, 0, 1]) := stmtN_ok (Li := [(5, .int .u8), (20, .bool)]) (Lo := [(5, .int .u8)]) (S := (fun x w => law01_small_s2 K x.1 x.2.1 w)) (law01_small_s2_ok K) (subR_of h)
theorem law01_small_l0_ok (K : Nat) (n : Nat) : StmtNOk prog [(0, .str), (3, .sl), (4, .int .i64)] [(3, .sl)] [(3, 27)] ((fun n x w => law01_small_l0 K n x.1 x.2.1 x.2.2.1 w) n) (.block 0 (.loop (cd (bodyOf f16) [1, 1, 0, 1, 0, 0]))) :=
    mk_loopN (O := tabL [([1, 1, 0, 1, 0, 0, 1, 0, 0, 1, 0, 0], law01_small_s1_se K), ([1, 1, 0, 1, 0, 0, 1, 0, 0, 1, 0, 1], law01_small_s2_se K)]) (root := (bodyOf f16)) (π := [1, 1, 0, 1, 0, 0]) (id := 0) (Li := [(0, .str), (3, .sl), (4, .int .i64)]) (Lo := [(3, .sl)]) (S := (fun n x w => law01_small_l0 K n x.1 x.2.1 x.2.2.1 w)) (body := cd (bodyOf f16) [1, 1, 0, 1, 0, 0]) (law01_small_Eok K) (law01_small_Rok K) rfl (Orc.cons (by kernel_rfl) (law01_small_s1_se_ok K [(3, 27)] (by kernel_rfl)) (Orc.cons (by kernel_rfl) (law01_small_s2_se_ok K [(3, 27)] (by kernel_rfl)) (Orc.nil _ _ _))) (by kernel_rfl) (fun _ _ => by kernel_rfl) (fun _ _ _ => by kernel_rfl) n
noncomputable def law01_small_l0_se (K : Nat) : SE := stmtN [(0, .str), (3, .sl), (4, .int .i64)] [(3, .sl)] [(3, 27)] (fun x w => law01_small_l0 K K x.1 x.2.1 x.2.2.1 w)
theorem law01_small_l0_se_ok (K : Nat) (R : Rg) (h : subRB [(3, 27)] R = true) : (law01_small_l0_se K).Ok prog R (.block 0 (.loop (cd (bodyOf f16) [1, 1, 0, 1, 0, 0]))) := stmtN_ok (Li := [(0, .str), (3, .sl), (4, .int .i64)]) (Lo := [(3, .sl)]) (S := (fun x w => law01_small_l0 K K x.1 x.2.1 x.2.2.1 w)) (law01_small_l0_ok K K) (subR_of h)
theorem law01_small_facts : FunFacts prog 16 f16 (bodyOf f16) [(0, .str)] [(0, 29)] := ⟨func16, by kernel_rfl, by kernel_rfl, by kernel_rfl, by kernel_rfl, by kernel_rfl⟩
theorem law01_small_calls (K : Nat) (x : TT [(0, .str)]) (w : World) (y : TR [.str]) (w2 : World) (h : law01_small K x.1 w = some (y, w2)) : Calls prog 16 (encA [(0, .str)] x).toArray w (fun e w3 => e = .returned (resV (encR [.str] y)) ∧ w3 = w2) :=
    mk_fun (O := tabL [([1, 1, 0, 1], law01_small_l0_se K), ([1, 1, 0, 1, 0, 0, 1, 0, 0, 1, 0, 0], law01_small_s1_se K), ([1, 1, 0, 1, 0, 0, 1, 0, 0, 1, 0, 1], law01_small_s2_se K)]) (Lp := [(0, .str)]) (Rt := [.str]) (S := (fun x w => law01_small K x.1 w)) (law01_small_Eok K) (law01_small_Rok K) rfl law01_small_facts (Orc.cons (by kernel_rfl) (law01_small_l0_se_ok K [(0, 29)] (by kernel_rfl)) (Orc.cons (by kernel_rfl) (law01_small_s1_se_ok K [(0, 29)] (by kernel_rfl)) (Orc.cons (by kernel_rfl) (law01_small_s2_se_ok K [(0, 29)] (by kernel_rfl)) (Orc.nil _ _ _)))) (fun _ _ => by kernel_rfl) x w y w2 h
noncomputable def law01_small_ce (K : Nat) : CE := funE [(0, .str)] [.str] (fun x w => law01_small K x.1 w)
theorem law01_small_ok (K : Nat) : (law01_small_ce K).Ok prog 16 := funE_ok (Rt := [.str]) (S := (fun x w => law01_small K x.1 w)) law01_small_facts fun x w y w2 h => law01_small_calls K x w y w2 h

noncomputable def law01_DigestTextBack_E (K : Nat) : List (Nat × CE) := [(12, digest_Hex_ce K), (13, digest_Base64_ce K), (14, digest_FromHex_ce K), (15, digest_FromBase64_ce K), (9, book_SameBytes_ce K), (16, law01_small_ce K)]
theorem law01_DigestTextBack_Eok (K : Nat) : Env.Ok prog (tab (law01_DigestTextBack_E K)) := (Env.cons (digest_Hex_ok K) (Env.cons (digest_Base64_ok K) (Env.cons (digest_FromHex_ok K) (Env.cons (digest_FromBase64_ok K) (Env.cons (book_SameBytes_ok K) (Env.cons (law01_small_ok K) (Env.nil _)))))))
noncomputable def law01_DigestTextBack_R (K : Nat) : List (Nat × RE) := [(7, law01_num_re)]
theorem law01_DigestTextBack_Rok (K : Nat) : REnv.Ok prog (tab (law01_DigestTextBack_R K)) := (REnv.cons (law01_num_ok) (REnv.nil _))
noncomputable def law01_DigestTextBack_s0 (K : Nat) (b0 : Sl) (s1 : ByteArray) (w : World) : Option ((Bool × Unit) × World) :=
  if (decide (((b0.len : Nat) : Int) > 65536)) = true then (some ((true, ()), w)) else (some (((decide (((s1.size : Nat) : Int) > 65536)), ()), w))
noncomputable def law01_DigestTextBack_s1 (K : Nat) (b0 : Sl) (h5 : ByteArray) (t6 : ByteArray) (x7 : Sl) (e8 : Int) (i9 : Int) (y10 : Sl) (f11 : Int) (k12 : Int) (w : World) : Option ((Bool × Unit) × World) :=
  (law01_num e8).bind fun r_11 =>
  if (r_11.1 != 0) = true then (some ((true, ()), w)) else ((law01_num f11).bind fun r_12 =>
  if (r_12.1 != 0) = true then (some ((true, ()), w)) else (if (i9 != 0) = true then (some ((true, ()), w)) else (if (k12 != 0) = true then (some ((true, ()), w)) else (bnd (book_SameBytes K x7 b0 w) fun r_13 w_14 =>
  if (!r_13.1) = true then (some ((true, ()), w_14)) else (bnd (book_SameBytes K y10 b0 w_14) fun r_15 w_16 =>
  if (!r_15.1) = true then (some ((true, ()), w_16)) else (if (((h5.size : Nat) : Int) != (IntKind.i64.wrap (2 * ((b0.len : Nat) : Int)))) = true then (some ((true, ()), w_16)) else (some (((((t6.size : Nat) : Int) != (IntKind.i64.wrap ((IntKind.i64.wrap (Int.tdiv (IntKind.i64.wrap (((b0.len : Nat) : Int) + 2)) 3)) * 4))), ()), w_16))))))))
noncomputable def law01_DigestTextBack_s2 (K : Nat) (s1 : ByteArray) (x7 : Sl) (e8 : Int) (i9 : Int) (w : World) : Option ((Bool × Unit) × World) :=
  (law01_num e8).bind fun r_21 =>
  if (r_21.1 == 0) = true then (bnd (digest_Hex K x7 w) fun r_22 w_23 =>
  bnd (law01_small K s1 w_23) fun r_24 w_25 =>
  if (!(r_22.1.toList == r_24.1.toList)) = true then (some ((true, ()), w_25)) else (if (i9 != 0) = true then (some ((true, ()), w_25)) else ((law01_num e8).bind fun r_26 =>
  if (r_26.1 != 0) = true then (if (decide (((x7.len : Nat) : Int) > 0)) = true then (some ((true, ()), w_25)) else (if (decide (i9 < 0)) = true then (some ((true, ()), w_25)) else (some (((decide (i9 > ((s1.size : Nat) : Int))), ()), w_25)))) else (some ((false, ()), w_25))))) else ((law01_num e8).bind fun r_27 =>
  if (r_27.1 != 0) = true then (if (decide (((x7.len : Nat) : Int) > 0)) = true then (some ((true, ()), w)) else (if (decide (i9 < 0)) = true then (some ((true, ()), w)) else (some (((decide (i9 > ((s1.size : Nat) : Int))), ()), w)))) else (some ((false, ()), w)))
/-- coffer/cofferlaw01.DigestTextBack -/
noncomputable def law01_DigestTextBack (K : Nat) (b0 : Sl) (s1 : ByteArray) (w : World) : Option ((Bool × Unit) × World) :=
  bnd (law01_DigestTextBack_s0 K b0 s1 w) fun y_1 w_2 =>
  if y_1.1 = true then (some ((true, ()), w_2)) else (bnd (digest_Hex K b0 w_2) fun r_3 w_4 =>
  bnd (digest_Base64 K b0 w_4) fun r_5 w_6 =>
  bnd (digest_FromHex K r_3.1 w_6) fun r_7 w_8 =>
  bnd (digest_FromBase64 K r_5.1 w_8) fun r_9 w_10 =>
  bnd (law01_DigestTextBack_s1 K b0 r_3.1 r_5.1 r_7.1 r_7.2.1 r_7.2.2.1 r_9.1 r_9.2.1 r_9.2.2.1 w_10) fun y_17 w_18 =>
  if y_17.1 = true then (some ((false, ()), w_18)) else (bnd (digest_FromHex K s1 w_18) fun r_19 w_20 =>
  bnd (law01_DigestTextBack_s2 K s1 r_19.1 r_19.2.1 r_19.2.2.1 w_20) fun y_28 w_29 =>
  if y_28.1 = true then (some ((false, ()), w_29)) else (bnd (digest_FromBase64 K s1 w_29) fun r_30 w_31 =>
  (law01_num r_30.2.1).bind fun r_32 =>
  if (r_32.1 == 0) = true then (bnd (digest_Base64 K r_30.1 w_31) fun r_33 w_34 =>
  if (r_33.1.toList == s1.toList) = true then (if (r_30.2.2.1 == 0) = true then (some ((true, ()), w_34)) else ((law01_num r_30.2.1).bind fun r_35 =>
  if (r_35.1 != 0) = true then (if (((r_30.1.len : Nat) : Int) == 0) = true then (if (decide (r_30.2.2.1 ≥ 0)) = true then (some (((decide (r_30.2.2.1 ≤ ((s1.size : Nat) : Int))), ()), w_34)) else (some ((false, ()), w_34))) else (some ((false, ()), w_34))) else (some ((false, ()), w_34)))) else ((law01_num r_30.2.1).bind fun r_36 =>
  if (r_36.1 != 0) = true then (if (((r_30.1.len : Nat) : Int) == 0) = true then (if (decide (r_30.2.2.1 ≥ 0)) = true then (some (((decide (r_30.2.2.1 ≤ ((s1.size : Nat) : Int))), ()), w_34)) else (some ((false, ()), w_34))) else (some ((false, ()), w_34))) else (some ((false, ()), w_34)))) else ((law01_num r_30.2.1).bind fun r_37 =>
  if (r_37.1 != 0) = true then (if (((r_30.1.len : Nat) : Int) == 0) = true then (if (decide (r_30.2.2.1 ≥ 0)) = true then (some (((decide (r_30.2.2.1 ≤ ((s1.size : Nat) : Int))), ()), w_31)) else (some ((false, ()), w_31))) else (some ((false, ()), w_31))) else (some ((false, ()), w_31))))))
theorem law01_DigestTextBack_s0_ok (K : Nat) : StmtNOk prog [(0, .sl), (1, .str)] [(20, .bool)] [(13, 21)] (fun x w => law01_DigestTextBack_s0 K x.1 x.2.1 w) (cd (bodyOf f5) [1, 0, 0]) :=
    mk_stmtN (O := tabL []) (root := (bodyOf f5)) (π := [1, 0, 0]) (Li := [(0, .sl), (1, .str)]) (Lo := [(20, .bool)]) (S := (fun x w => law01_DigestTextBack_s0 K x.1 x.2.1 w)) (law01_DigestTextBack_Eok K) (law01_DigestTextBack_Rok K) rfl (Orc.nil _ _ _) (by kernel_rfl) (fun _ _ => by kernel_rfl)
noncomputable def law01_DigestTextBack_s0_se (K : Nat) : SE := stmtN [(0, .sl), (1, .str)] [(20, .bool)] [(13, 21)] (fun x w => law01_DigestTextBack_s0 K x.1 x.2.1 w)
theorem law01_DigestTextBack_s0_se_ok (K : Nat) (R : Rg) (h : subRB [(13, 21)] R = true) : (law01_DigestTextBack_s0_se K).Ok prog R (cd (bodyOf f5) [1, 0, 0]) := stmtN_ok (Li := [(0, .sl), (1, .str)]) (Lo := [(20, .bool)]) (S := (fun x w => law01_DigestTextBack_s0 K x.1 x.2.1 w)) (law01_DigestTextBack_s0_ok K) (subR_of h)
theorem law01_DigestTextBack_s1_ok (K : Nat) : StmtNOk prog [(0, .sl), (5, .str), (6, .str), (7, .sl), (8, .int .i64), (9, .int .i64), (10, .sl), (11, .int .i64), (12, .int .i64)] [(82, .bool)] [(37, 83)] (fun x w => law01_DigestTextBack_s1 K x.1 x.2.1 x.2.2.1 x.2.2.2.1 x.2.2.2.2.1 x.2.2.2.2.2.1 x.2.2.2.2.2.2.1 x.2.2.2.2.2.2.2.1 x.2.2.2.2.2.2.2.2.1 w) (cd (bodyOf f5) [1, 1, 1, 1, 1, 1, 0, 0]) :=
    mk_stmtN (O := tabL []) (root := (bodyOf f5)) (π := [1, 1, 1, 1, 1, 1, 0, 0]) (Li := [(0, .sl), (5, .str), (6, .str), (7, .sl), (8, .int .i64), (9, .int .i64), (10, .sl), (11, .int .i64), (12, .int .i64)]) (Lo := [(82, .bool)]) (S := (fun x w => law01_DigestTextBack_s1 K x.1 x.2.1 x.2.2.1 x.2.2.2.1 x.2.2.2.2.1 x.2.2.2.2.2.1 x.2.2.2.2.2.2.1 x.2.2.2.2.2.2.2.1 x.2.2.2.2.2.2.2.2.1 w)) (law01_DigestTextBack_Eok K) (law01_DigestTextBack_Rok K) rfl (Orc.nil _ _ _) (by kernel_rfl) (fun _ _ => by kernel_rfl)
noncomputable def law01_DigestTextBack_s1_se (K : Nat) : SE := stmtN [(0, .sl), (5, .str), (6, .str), (7, .sl), (8, .int .i64), (9, .int .i64), (10, .sl), (11, .int .i64), (12, .int .i64)] [(82, .bool)] [(37, 83)] (fun x w => law01_DigestTextBack_s1 K x.1 x.2.1 x.2.2.1 x.2.2.2.1 x.2.2.2.2.1 x.2.2.2.2.2.1 x.2.2.2.2.2.2.1 x.2.2.2.2.2.2.2.1 x.2.2.2.2.2.2.2.2.1 w)
theorem law01_DigestTextBack_s1_se_ok (K : Nat) (R : Rg) (h : subRB [(37, 83)] R = true) : (law01_DigestTextBack_s1_se K).Ok prog R (cd (bodyOf f5) [1, 1, 1, 1, 1, 1, 0, 0]) := stmtN_ok (Li := [(0, .sl), (5, .str), (6, .str), (7, .sl), (8, .int .i64), (9, .int .i64), (10, .sl), (11, .int .i64), (12, .int .i64)]) (Lo := [(82, .bool)]) (S := (fun x w => law01_DigestTextBack_s1 K x.1 x.2.1 x.2.2.1 x.2.2.2.1 x.2.2.2.2.1 x.2.2.2.2.2.1 x.2.2.2.2.2.2.1 x.2.2.2.2.2.2.2.1 x.2.2.2.2.2.2.2.2.1 w)) (law01_DigestTextBack_s1_ok K) (subR_of h)
theorem law01_DigestTextBack_s2_ok (K : Nat) : StmtNOk prog [(1, .str), (7, .sl), (8, .int .i64), (9, .int .i64)] [(122, .bool)] [(89, 123)] (fun x w => law01_DigestTextBack_s2 K x.1 x.2.1 x.2.2.1 x.2.2.2.1 w) (cd (bodyOf f5) [1, 1, 1, 1, 1, 1, 1, 1, 0, 0]) :=
    mk_stmtN (O := tabL []) (root := (bodyOf f5)) (π := [1, 1, 1, 1, 1, 1, 1, 1, 0, 0]) (Li := [(1, .str), (7, .sl), (8, .int .i64), (9, .int .i64)]) (Lo := [(122, .bool)]) (S := (fun x w => law01_DigestTextBack_s2 K x.1 x.2.1 x.2.2.1 x.2.2.2.1 w)) (law01_DigestTextBack_Eok K) (law01_DigestTextBack_Rok K) rfl (Orc.nil _ _ _) (by kernel_rfl) (fun _ _ => by kernel_rfl)
noncomputable def law01_DigestTextBack_s2_se (K : Nat) : SE := stmtN [(1, .str), (7, .sl), (8, .int .i64), (9, .int .i64)] [(122, .bool)] [(89, 123)] (fun x w => law01_DigestTextBack_s2 K x.1 x.2.1 x.2.2.1 x.2.2.2.1 w)
theorem law01_DigestTextBack_s2_se_ok (K : Nat) (R : Rg) (h : subRB [(89, 123)] R = true) : (law01_DigestTextBack_s2_se K).Ok prog R (cd (bodyOf f5) [1, 1, 1, 1, 1, 1, 1, 1, 0, 0]) := stmtN_ok (Li := [(1, .str), (7, .sl), (8, .int .i64), (9, .int .i64)]) (Lo := [(122, .bool)]) (S := (fun x w => law01_DigestTextBack_s2 K x.1 x.2.1 x.2.2.1 x.2.2.2.1 w)) (law01_DigestTextBack_s2_ok K) (subR_of h)
theorem law01_DigestTextBack_facts : FunFacts prog 5 f5 (bodyOf f5) [(0, .sl), (1, .str)] [(0, 162)] := ⟨func5, by kernel_rfl, by kernel_rfl, by kernel_rfl, by kernel_rfl, by kernel_rfl⟩
theorem law01_DigestTextBack_calls (K : Nat) (x : TT [(0, .sl), (1, .str)]) (w : World) (y : TR [.bool]) (w2 : World) (h : law01_DigestTextBack K x.1 x.2.1 w = some (y, w2)) : Calls prog 5 (encA [(0, .sl), (1, .str)] x).toArray w (fun e w3 => e = .returned (resV (encR [.bool] y)) ∧ w3 = w2) :=
    mk_fun (O := tabL [([1, 0, 0], law01_DigestTextBack_s0_se K), ([1, 1, 1, 1, 1, 1, 0, 0], law01_DigestTextBack_s1_se K), ([1, 1, 1, 1, 1, 1, 1, 1, 0, 0], law01_DigestTextBack_s2_se K)]) (Lp := [(0, .sl), (1, .str)]) (Rt := [.bool]) (S := (fun x w => law01_DigestTextBack K x.1 x.2.1 w)) (law01_DigestTextBack_Eok K) (law01_DigestTextBack_Rok K) rfl law01_DigestTextBack_facts (Orc.cons (by kernel_rfl) (law01_DigestTextBack_s0_se_ok K [(0, 162)] (by kernel_rfl)) (Orc.cons (by kernel_rfl) (law01_DigestTextBack_s1_se_ok K [(0, 162)] (by kernel_rfl)) (Orc.cons (by kernel_rfl) (law01_DigestTextBack_s2_se_ok K [(0, 162)] (by kernel_rfl)) (Orc.nil _ _ _)))) (fun _ _ => by kernel_rfl) x w y w2 h
noncomputable def law01_DigestTextBack_ce (K : Nat) : CE := funE [(0, .sl), (1, .str)] [.bool] (fun x w => law01_DigestTextBack K x.1 x.2.1 w)
theorem law01_DigestTextBack_ok (K : Nat) : (law01_DigestTextBack_ce K).Ok prog 5 := funE_ok (Rt := [.bool]) (S := (fun x w => law01_DigestTextBack K x.1 x.2.1 w)) law01_DigestTextBack_facts fun x w y w2 h => law01_DigestTextBack_calls K x w y w2 h

noncomputable def ref01_Hex_E (K : Nat) : List (Nat × CE) := []
theorem ref01_Hex_Eok (K : Nat) : Env.Ok prog (tab (ref01_Hex_E K)) := (Env.nil _)
noncomputable def ref01_Hex_R (K : Nat) : List (Nat × RE) := []
theorem ref01_Hex_Rok (K : Nat) : REnv.Ok prog (tab (ref01_Hex_R K)) := (REnv.nil _)
noncomputable def ref01_Hex_l0_b (K : Nat) (rec : Sl → Sl → Int → World → Option ((Sl × Unit) × World)) (b0 : Sl) (out3 : Sl) (i4 : Int) (w : World) : Option ((Sl × Unit) × World) :=
  if (decide (i4 < ((b0.len : Nat) : Int))) = true then ((b0.a).bind fun p_1 =>
  if (0 : Int) ≤ i4 ∧ i4 < ((b0.len : Nat) : Int) then ((b0.a).bind fun p_2 =>
  if (0 : Int) ≤ i4 ∧ i4 < ((b0.len : Nat) : Int) then ((ldI .u8 (p_1.add ((Int.toNat i4) * 1)) w.drew).bind fun v_3 =>
  if (0 : Int) ≤ (IntKind.u8.wrap (Int.tdiv v_3 16)) then ((str1[(Int.toNat (IntKind.u8.wrap (Int.tdiv v_3 16)))]?).bind fun b_4 =>
  (ldI .u8 (p_2.add ((Int.toNat i4) * 1)) w.drew).bind fun v_5 =>
  if (0 : Int) ≤ (Int.tmod v_5 16) then ((str1[(Int.toNat (Int.tmod v_5 16))]?).bind fun b_6 =>
  bnd (bldS prog 25 2 #[(0, (.int .u8 ((b_4.toNat : Nat) : Int))), (1, (.int .u8 ((b_6.toNat : Nat) : Int)))] w.drew) fun s_7 w_8 =>
  bnd (apd prog 25 25 (.slice out3.a out3.len out3.cap) (.slice s_7.a s_7.len s_7.cap) w_8) fun s_9 w_10 =>
  rec b0 s_9 (IntKind.i64.wrap (i4 + 1)) w_10) else none) else none) else none) else none) else (some ((out3, ()), w))
noncomputable def ref01_Hex_l0 (K : Nat) (n : Nat) : Sl → Sl → Int → World → Option ((Sl × Unit) × World) := iter (fun _ _ _ _ => none) (ref01_Hex_l0_b K) n
/-- coffer/cofferref01.Hex -/
noncomputable def ref01_Hex (K : Nat) (b0 : Sl) (w : World) : Option ((ByteArray × Unit) × World) :=
  if (decide (((b0.len : Nat) : Int) > 8388608)) = true then (some ((str0, ()), w)) else (bnd (ref01_Hex_l0 K K b0 ⟨none, 0, 0⟩ 0 w) fun y_11 w_12 =>
  bnd (b2s prog y_11.1.a y_11.1.len y_11.1.cap w_12) fun c_13 w_14 =>
  some ((c_13, ()), w_14))
theorem ref01_Hex_l0_ok (K : Nat) (n : Nat) : StmtNOk prog [(0, .sl), (3, .sl), (4, .int .i64)] [(3, .sl)] [(3, 5), (8, 29)] ((fun n x w => ref01_Hex_l0 K n x.1 x.2.1 x.2.2.1 w) n) (.block 0 (.loop (cd (bodyOf f17) [1, 1, 1, 0, 1, 0, 0]))) :=
    mk_loopN (O := tabL []) (root := (bodyOf f17)) (π := [1, 1, 1, 0, 1, 0, 0]) (id := 0) (Li := [(0, .sl), (3, .sl), (4, .int .i64)]) (Lo := [(3, .sl)]) (S := (fun n x w => ref01_Hex_l0 K n x.1 x.2.1 x.2.2.1 w)) (body := cd (bodyOf f17) [1, 1, 1, 0, 1, 0, 0]) (ref01_Hex_Eok K) (ref01_Hex_Rok K) rfl (Orc.nil _ _ _) (by kernel_rfl) (fun _ _ => by kernel_rfl) (fun _ _ _ => by kernel_rfl) n
noncomputable def ref01_Hex_l0_se (K : Nat) : SE := stmtN [(0, .sl), (3, .sl), (4, .int .i64)] [(3, .sl)] [(3, 5), (8, 29)] (fun x w => ref01_Hex_l0 K K x.1 x.2.1 x.2.2.1 w)
theorem ref01_Hex_l0_se_ok (K : Nat) (R : Rg) (h : subRB [(3, 5), (8, 29)] R = true) : (ref01_Hex_l0_se K).Ok prog R (.block 0 (.loop (cd (bodyOf f17) [1, 1, 1, 0, 1, 0, 0]))) := stmtN_ok (Li := [(0, .sl), (3, .sl), (4, .int .i64)]) (Lo := [(3, .sl)]) (S := (fun x w => ref01_Hex_l0 K K x.1 x.2.1 x.2.2.1 w)) (ref01_Hex_l0_ok K K) (subR_of h)
theorem ref01_Hex_facts : FunFacts prog 17 f17 (bodyOf f17) [(0, .sl)] [(0, 31)] := ⟨func17, by kernel_rfl, by kernel_rfl, by kernel_rfl, by kernel_rfl, by kernel_rfl⟩
theorem ref01_Hex_calls (K : Nat) (x : TT [(0, .sl)]) (w : World) (y : TR [.str]) (w2 : World) (h : ref01_Hex K x.1 w = some (y, w2)) : Calls prog 17 (encA [(0, .sl)] x).toArray w (fun e w3 => e = .returned (resV (encR [.str] y)) ∧ w3 = w2) :=
    mk_fun (O := tabL [([1, 1, 1, 0, 1], ref01_Hex_l0_se K)]) (Lp := [(0, .sl)]) (Rt := [.str]) (S := (fun x w => ref01_Hex K x.1 w)) (ref01_Hex_Eok K) (ref01_Hex_Rok K) rfl ref01_Hex_facts (Orc.cons (by kernel_rfl) (ref01_Hex_l0_se_ok K [(0, 31)] (by kernel_rfl)) (Orc.nil _ _ _)) (fun _ _ => by kernel_rfl) x w y w2 h
noncomputable def ref01_Hex_ce (K : Nat) : CE := funE [(0, .sl)] [.str] (fun x w => ref01_Hex K x.1 w)
theorem ref01_Hex_ok (K : Nat) : (ref01_Hex_ce K).Ok prog 17 := funE_ok (Rt := [.str]) (S := (fun x w => ref01_Hex K x.1 w)) ref01_Hex_facts fun x w y w2 h => ref01_Hex_calls K x w y w2 h

noncomputable def ref01_at_R : List (Nat × RE) := []
theorem ref01_at_Rok : REnv.Ok prog (tab (ref01_at_R)) := (REnv.nil _)
/-- coffer/cofferref01.at -/
noncomputable def ref01_at (b0 : Sl) (i1 : Int) (w : World) : Option (Int × Unit) :=
  if (decide (i1 < ((b0.len : Nat) : Int))) = true then ((b0.a).bind fun p_1 =>
  if (0 : Int) ≤ i1 ∧ i1 < ((b0.len : Nat) : Int) then ((ldI .u8 (p_1.add ((Int.toNat i1) * 1)) w).bind fun v_2 =>
  some ((IntKind.i64.wrap v_2), ())) else none) else (some (0, ()))
theorem ref01_at_facts : FunFacts prog 26 f26 (bodyOf f26) [(0, .sl), (1, .int .i64)] [(0, 14)] := ⟨func26, by kernel_rfl, by kernel_rfl, by kernel_rfl, by kernel_rfl, by kernel_rfl⟩
theorem ref01_at_calls (x : TT [(0, .sl), (1, .int .i64)]) (w : World) (y : TR [.int .i64]) (h : ref01_at x.1 x.2.1 w = some y) : Calls prog 26 (encA [(0, .sl), (1, .int .i64)] x).toArray w (fun e w3 => e = .returned (resV (encR [.int .i64] y)) ∧ w3 = w) :=
    mk_funQ (O := tabL []) (Lp := [(0, .sl), (1, .int .i64)]) (Rt := [.int .i64]) (S := (fun x w => ref01_at x.1 x.2.1 w)) (ref01_at_Rok) ref01_at_facts (OrcQ.nil _ _ _) (fun _ _ => by kernel_rfl) x w y h
noncomputable def ref01_at_re : RE := funR [(0, .sl), (1, .int .i64)] [.int .i64] (fun x w => ref01_at x.1 x.2.1 w)
theorem ref01_at_ok : (ref01_at_re).Ok prog 26 := funR_ok (Rt := [.int .i64]) (S := (fun x w => ref01_at x.1 x.2.1 w)) ref01_at_facts fun x w y h => ref01_at_calls x w y h

noncomputable def ref01_letter_R : List (Nat × RE) := []
theorem ref01_letter_Rok : REnv.Ok prog (tab (ref01_letter_R)) := (REnv.nil _)
/-- coffer/cofferref01.letter -/
noncomputable def ref01_letter (v0 : Int) : Option (Int × Unit) :=
  if (decide (v0 < 26)) = true then (some ((IntKind.u8.wrap (IntKind.i64.wrap (65 + v0))), ())) else (if (decide (v0 < 52)) = true then (some ((IntKind.u8.wrap (IntKind.i64.wrap ((IntKind.i64.wrap (97 + v0)) - 26))), ())) else (if (decide (v0 < 62)) = true then (some ((IntKind.u8.wrap (IntKind.i64.wrap ((IntKind.i64.wrap (48 + v0)) - 52))), ())) else (if (v0 == 62) = true then (some (43, ())) else (some (47, ())))))
theorem ref01_letter_facts : FunFacts prog 27 f27 (bodyOf f27) [(0, .int .i64)] [(0, 26)] := ⟨func27, by kernel_rfl, by kernel_rfl, by kernel_rfl, by kernel_rfl, by kernel_rfl⟩
theorem ref01_letter_calls (x : TT [(0, .int .i64)]) (w : World) (y : TR [.int .u8]) (h : ref01_letter x.1 = some y) : Calls prog 27 (encA [(0, .int .i64)] x).toArray w (fun e w3 => e = .returned (resV (encR [.int .u8] y)) ∧ w3 = w) :=
    mk_funQ (O := tabL []) (Lp := [(0, .int .i64)]) (Rt := [.int .u8]) (S := (fun x w => ref01_letter x.1)) (ref01_letter_Rok) ref01_letter_facts (OrcQ.nil _ _ _) (fun _ _ => by kernel_rfl) x w y h
noncomputable def ref01_letter_re : RE := funR [(0, .int .i64)] [.int .u8] (fun x w => ref01_letter x.1)
theorem ref01_letter_ok : (ref01_letter_re).Ok prog 27 := funR_ok (Rt := [.int .u8]) (S := (fun x w => ref01_letter x.1)) ref01_letter_facts fun x w y h => ref01_letter_calls x w y h

noncomputable def ref01_Base64_E (K : Nat) : List (Nat × CE) := []
theorem ref01_Base64_Eok (K : Nat) : Env.Ok prog (tab (ref01_Base64_E K)) := (Env.nil _)
noncomputable def ref01_Base64_R (K : Nat) : List (Nat × RE) := [(26, ref01_at_re), (27, ref01_letter_re)]
theorem ref01_Base64_Rok (K : Nat) : REnv.Ok prog (tab (ref01_Base64_R K)) := (REnv.cons (ref01_at_ok) (REnv.cons (ref01_letter_ok) (REnv.nil _)))
noncomputable def ref01_Base64_s1 (K : Nat) (out3 : Sl) (v5 : Int) (a44 : Bool) (w : World) : Option ((Sl × Unit) × World) :=
  if a44 = true then ((ref01_letter (Int.tmod (IntKind.i64.wrap (Int.tdiv v5 64)) 64)).bind fun r_10 =>
  bnd (bldS prog 25 1 #[(0, (.int .u8 r_10.1))] w) fun s_11 w_12 =>
  bnd (apd prog 25 25 (.slice out3.a out3.len out3.cap) (.slice s_11.a s_11.len s_11.cap) w_12) fun s_13 w_14 =>
  some ((s_13, ()), w_14)) else (bnd (bldS prog 25 1 #[(0, (.int .u8 61))] w) fun s_15 w_16 =>
  bnd (apd prog 25 25 (.slice out3.a out3.len out3.cap) (.slice s_15.a s_15.len s_15.cap) w_16) fun s_17 w_18 =>
  some ((s_17, ()), w_18))
noncomputable def ref01_Base64_l0_b (K : Nat) (rec : Sl → Sl → Int → World → Option ((Sl × Unit) × World)) (b0 : Sl) (out3 : Sl) (i4 : Int) (w : World) : Option ((Sl × Unit) × World) :=
  if (decide (i4 < ((b0.len : Nat) : Int))) = true then ((ref01_at b0 i4 w).bind fun r_1 =>
  (ref01_at b0 (IntKind.i64.wrap (i4 + 1)) w).bind fun r_2 =>
  (ref01_at b0 (IntKind.i64.wrap (i4 + 2)) w).bind fun r_3 =>
  (ref01_letter (IntKind.i64.wrap (Int.tdiv (IntKind.i64.wrap ((IntKind.i64.wrap ((IntKind.i64.wrap (r_1.1 * 65536)) + (IntKind.i64.wrap (r_2.1 * 256)))) + r_3.1)) 262144))).bind fun r_4 =>
  (ref01_letter (Int.tmod (IntKind.i64.wrap (Int.tdiv (IntKind.i64.wrap ((IntKind.i64.wrap ((IntKind.i64.wrap (r_1.1 * 65536)) + (IntKind.i64.wrap (r_2.1 * 256)))) + r_3.1)) 4096)) 64)).bind fun r_5 =>
  bnd (bldS prog 25 2 #[(0, (.int .u8 r_4.1)), (1, (.int .u8 r_5.1))] w) fun s_6 w_7 =>
  bnd (apd prog 25 25 (.slice out3.a out3.len out3.cap) (.slice s_6.a s_6.len s_6.cap) w_7) fun s_8 w_9 =>
  bnd (ref01_Base64_s1 K s_8 (IntKind.i64.wrap ((IntKind.i64.wrap ((IntKind.i64.wrap (r_1.1 * 65536)) + (IntKind.i64.wrap (r_2.1 * 256)))) + r_3.1)) (decide ((IntKind.i64.wrap (i4 + 1)) < ((b0.len : Nat) : Int))) w_9) fun y_19 w_20 =>
  if (decide ((IntKind.i64.wrap (i4 + 2)) < ((b0.len : Nat) : Int))) = true then ((ref01_letter (Int.tmod (IntKind.i64.wrap ((IntKind.i64.wrap ((IntKind.i64.wrap (r_1.1 * 65536)) + (IntKind.i64.wrap (r_2.1 * 256)))) + r_3.1)) 64)).bind fun r_21 =>
  bnd (bldS prog 25 1 #[(0, (.int .u8 r_21.1))] w_20) fun s_22 w_23 =>
  bnd (apd prog 25 25 (.slice y_19.1.a y_19.1.len y_19.1.cap) (.slice s_22.a s_22.len s_22.cap) w_23) fun s_24 w_25 =>
  rec b0 s_24 (IntKind.i64.wrap (i4 + 3)) w_25) else (bnd (bldS prog 25 1 #[(0, (.int .u8 61))] w_20) fun s_26 w_27 =>
  bnd (apd prog 25 25 (.slice y_19.1.a y_19.1.len y_19.1.cap) (.slice s_26.a s_26.len s_26.cap) w_27) fun s_28 w_29 =>
  rec b0 s_28 (IntKind.i64.wrap (i4 + 3)) w_29)) else (some ((out3, ()), w))
noncomputable def ref01_Base64_l0 (K : Nat) (n : Nat) : Sl → Sl → Int → World → Option ((Sl × Unit) × World) := iter (fun _ _ _ _ => none) (ref01_Base64_l0_b K) n
/-- coffer/cofferref01.Base64 -/
noncomputable def ref01_Base64 (K : Nat) (b0 : Sl) (w : World) : Option ((ByteArray × Unit) × World) :=
  if (decide (((b0.len : Nat) : Int) > 12582912)) = true then (some ((str0, ()), w)) else (bnd (ref01_Base64_l0 K K b0 ⟨none, 0, 0⟩ 0 w) fun y_30 w_31 =>
  bnd (b2s prog y_30.1.a y_30.1.len y_30.1.cap w_31) fun c_32 w_33 =>
  some ((c_32, ()), w_33))
theorem ref01_Base64_s1_ok (K : Nat) : StmtNOk prog [(3, .sl), (5, .int .i64), (44, .bool)] [(3, .sl)] [(3, 4), (45, 55)] (fun x w => ref01_Base64_s1 K x.1 x.2.1 x.2.2.1 w) (cd (bodyOf f18) [1, 1, 1, 0, 1, 0, 0, 1, 0, 0, 1, 1, 0, 1]) :=
    mk_stmtN (O := tabL []) (root := (bodyOf f18)) (π := [1, 1, 1, 0, 1, 0, 0, 1, 0, 0, 1, 1, 0, 1]) (Li := [(3, .sl), (5, .int .i64), (44, .bool)]) (Lo := [(3, .sl)]) (S := (fun x w => ref01_Base64_s1 K x.1 x.2.1 x.2.2.1 w)) (ref01_Base64_Eok K) (ref01_Base64_Rok K) rfl (Orc.nil _ _ _) (by kernel_rfl) (fun _ _ => by kernel_rfl)
noncomputable def ref01_Base64_s1_se (K : Nat) : SE := stmtN [(3, .sl), (5, .int .i64), (44, .bool)] [(3, .sl)] [(3, 4), (45, 55)] (fun x w => ref01_Base64_s1 K x.1 x.2.1 x.2.2.1 w)
theorem ref01_Base64_s1_se_ok (K : Nat) (R : Rg) (h : subRB [(3, 4), (45, 55)] R = true) : (ref01_Base64_s1_se K).Ok prog R (cd (bodyOf f18) [1, 1, 1, 0, 1, 0, 0, 1, 0, 0, 1, 1, 0, 1]) := stmtN_ok (Li := [(3, .sl), (5, .int .i64), (44, .bool)]) (Lo := [(3, .sl)]) (S := (fun x w => ref01_Base64_s1 K x.1 x.2.1 x.2.2.1 w)) (ref01_Base64_s1_ok K) (subR_of h)
theorem ref01_Base64_l0_ok (K : Nat) (n : Nat) : StmtNOk prog [(0, .sl), (3, .sl), (4, .int .i64)] [(3, .sl)] [(3, 6), (9, 69)] ((fun n x w => ref01_Base64_l0 K n x.1 x.2.1 x.2.2.1 w) n) (.block 0 (.loop (cd (bodyOf f18) [1, 1, 1, 0, 1, 0, 0]))) :=
    mk_loopN (O := tabL [([1, 1, 1, 0, 1, 0, 0, 1, 0, 0, 1, 1, 0, 1], ref01_Base64_s1_se K)]) (root := (bodyOf f18)) (π := [1, 1, 1, 0, 1, 0, 0]) (id := 0) (Li := [(0, .sl), (3, .sl), (4, .int .i64)]) (Lo := [(3, .sl)]) (S := (fun n x w => ref01_Base64_l0 K n x.1 x.2.1 x.2.2.1 w)) (body := cd (bodyOf f18) [1, 1, 1, 0, 1, 0, 0]) (ref01_Base64_Eok K) (ref01_Base64_Rok K) rfl (Orc.cons (by kernel_rfl) (ref01_Base64_s1_se_ok K [(3, 6), (9, 69)] (by kernel_rfl)) (Orc.nil _ _ _)) (by kernel_rfl) (fun _ _ => by kernel_rfl) (fun _ _ _ => by kernel_rfl) n
noncomputable def ref01_Base64_l0_se (K : Nat) : SE := stmtN [(0, .sl), (3, .sl), (4, .int .i64)] [(3, .sl)] [(3, 6), (9, 69)] (fun x w => ref01_Base64_l0 K K x.1 x.2.1 x.2.2.1 w)
theorem ref01_Base64_l0_se_ok (K : Nat) (R : Rg) (h : subRB [(3, 6), (9, 69)] R = true) : (ref01_Base64_l0_se K).Ok prog R (.block 0 (.loop (cd (bodyOf f18) [1, 1, 1, 0, 1, 0, 0]))) := stmtN_ok (Li := [(0, .sl), (3, .sl), (4, .int .i64)]) (Lo := [(3, .sl)]) (S := (fun x w => ref01_Base64_l0 K K x.1 x.2.1 x.2.2.1 w)) (ref01_Base64_l0_ok K K) (subR_of h)
theorem ref01_Base64_facts : FunFacts prog 18 f18 (bodyOf f18) [(0, .sl)] [(0, 71)] := ⟨func18, by kernel_rfl, by kernel_rfl, by kernel_rfl, by kernel_rfl, by kernel_rfl⟩
theorem ref01_Base64_calls (K : Nat) (x : TT [(0, .sl)]) (w : World) (y : TR [.str]) (w2 : World) (h : ref01_Base64 K x.1 w = some (y, w2)) : Calls prog 18 (encA [(0, .sl)] x).toArray w (fun e w3 => e = .returned (resV (encR [.str] y)) ∧ w3 = w2) :=
    mk_fun (O := tabL [([1, 1, 1, 0, 1], ref01_Base64_l0_se K), ([1, 1, 1, 0, 1, 0, 0, 1, 0, 0, 1, 1, 0, 1], ref01_Base64_s1_se K)]) (Lp := [(0, .sl)]) (Rt := [.str]) (S := (fun x w => ref01_Base64 K x.1 w)) (ref01_Base64_Eok K) (ref01_Base64_Rok K) rfl ref01_Base64_facts (Orc.cons (by kernel_rfl) (ref01_Base64_l0_se_ok K [(0, 71)] (by kernel_rfl)) (Orc.cons (by kernel_rfl) (ref01_Base64_s1_se_ok K [(0, 71)] (by kernel_rfl)) (Orc.nil _ _ _))) (fun _ _ => by kernel_rfl) x w y w2 h
noncomputable def ref01_Base64_ce (K : Nat) : CE := funE [(0, .sl)] [.str] (fun x w => ref01_Base64 K x.1 w)
theorem ref01_Base64_ok (K : Nat) : (ref01_Base64_ce K).Ok prog 18 := funE_ok (Rt := [.str]) (S := (fun x w => ref01_Base64 K x.1 w)) ref01_Base64_facts fun x w y w2 h => ref01_Base64_calls K x w y w2 h

noncomputable def ref01_digit_R : List (Nat × RE) := []
theorem ref01_digit_Rok : REnv.Ok prog (tab (ref01_digit_R)) := (REnv.nil _)
noncomputable def ref01_digit_s0 (c0 : Int) : Option (Out (Bool × Unit) (Int × Unit)) :=
  if (decide (c0 ≥ 48)) = true then (some (.norm ((decide (c0 ≤ 57)), ()))) else (some (.norm (false, ())))
noncomputable def ref01_digit_s1 (c0 : Int) : Option (Out (Bool × Unit) (Int × Unit)) :=
  if (decide (c0 ≥ 97)) = true then (some (.norm ((decide (c0 ≤ 102)), ()))) else (some (.norm (false, ())))
noncomputable def ref01_digit_s2 (c0 : Int) : Option (Out (Bool × Unit) (Int × Unit)) :=
  if (decide (c0 ≥ 65)) = true then (some (.norm ((decide (c0 ≤ 70)), ()))) else (some (.norm (false, ())))
/-- coffer/cofferref01.digit -/
noncomputable def ref01_digit (c0 : Int) : Option (Int × Unit) :=
  (ref01_digit_s0 c0).bind fun y_1 =>
  (match y_1 with
  | .norm z_2n => (if z_2n.1 = true then (some ((IntKind.i64.wrap ((IntKind.i64.wrap c0) - 48)), ())) else ((ref01_digit_s1 c0).bind fun y_3 =>
  (match y_3 with
  | .norm z_4n => (if z_4n.1 = true then (some ((IntKind.i64.wrap ((IntKind.i64.wrap ((IntKind.i64.wrap c0) - 97)) + 10)), ())) else ((ref01_digit_s2 c0).bind fun y_5 =>
  (match y_5 with
  | .norm z_6n => (if z_6n.1 = true then (some ((IntKind.i64.wrap ((IntKind.i64.wrap ((IntKind.i64.wrap c0) - 65)) + 10)), ())) else (some ((-1), ())))
  | .ret z_6r => (some (z_6r.1, ())))))
  | .ret z_4r => (some (z_4r.1, ())))))
  | .ret z_2r => (some (z_2r.1, ())))
theorem ref01_digit_s0_ok : StmtQOk prog [(0, .int .u8)] [(3, .bool)] [(2, .int .i64)] [(3, 10)] (fun x w => ref01_digit_s0 x.1) (cd (bodyOf f28) [1, 0, 0, 0]) :=
    mk_stmtQ (O := tabL []) (root := (bodyOf f28)) (π := [1, 0, 0, 0]) (Li := [(0, .int .u8)]) (Lo := [(3, .bool)]) (Lr := [(2, .int .i64)]) (S := (fun x w => ref01_digit_s0 x.1)) (ref01_digit_Rok) (OrcQ.nil _ _ _) (by kernel_rfl) (fun _ _ => by kernel_rfl)
noncomputable def ref01_digit_s0_se : SQ := stmtQ [(0, .int .u8)] [(3, .bool)] [(2, .int .i64)] [(3, 10)] (fun x w => ref01_digit_s0 x.1)
theorem ref01_digit_s0_se_ok (R : Rg) (h : subRB [(3, 10)] R = true) : (ref01_digit_s0_se).Ok prog R (cd (bodyOf f28) [1, 0, 0, 0]) := stmtQ_ok (Li := [(0, .int .u8)]) (Lo := [(3, .bool)]) (Lr := [(2, .int .i64)]) (S := (fun x w => ref01_digit_s0 x.1)) (ref01_digit_s0_ok) (subR_of h)
theorem ref01_digit_s1_ok : StmtQOk prog [(0, .int .u8)] [(13, .bool)] [(2, .int .i64)] [(13, 20)] (fun x w => ref01_digit_s1 x.1) (cd (bodyOf f28) [1, 0, 0, 1, 1, 0]) :=
    mk_stmtQ (O := tabL []) (root := (bodyOf f28)) (π := [1, 0, 0, 1, 1, 0]) (Li := [(0, .int .u8)]) (Lo := [(13, .bool)]) (Lr := [(2, .int .i64)]) (S := (fun x w => ref01_digit_s1 x.1)) (ref01_digit_Rok) (OrcQ.nil _ _ _) (by kernel_rfl) (fun _ _ => by kernel_rfl)
noncomputable def ref01_digit_s1_se : SQ := stmtQ [(0, .int .u8)] [(13, .bool)] [(2, .int .i64)] [(13, 20)] (fun x w => ref01_digit_s1 x.1)
theorem ref01_digit_s1_se_ok (R : Rg) (h : subRB [(13, 20)] R = true) : (ref01_digit_s1_se).Ok prog R (cd (bodyOf f28) [1, 0, 0, 1, 1, 0]) := stmtQ_ok (Li := [(0, .int .u8)]) (Lo := [(13, .bool)]) (Lr := [(2, .int .i64)]) (S := (fun x w => ref01_digit_s1 x.1)) (ref01_digit_s1_ok) (subR_of h)
theorem ref01_digit_s2_ok : StmtQOk prog [(0, .int .u8)] [(24, .bool)] [(2, .int .i64)] [(24, 31)] (fun x w => ref01_digit_s2 x.1) (cd (bodyOf f28) [1, 0, 0, 1, 1, 1, 1, 0]) :=
    mk_stmtQ (O := tabL []) (root := (bodyOf f28)) (π := [1, 0, 0, 1, 1, 1, 1, 0]) (Li := [(0, .int .u8)]) (Lo := [(24, .bool)]) (Lr := [(2, .int .i64)]) (S := (fun x w => ref01_digit_s2 x.1)) (ref01_digit_Rok) (OrcQ.nil _ _ _) (by kernel_rfl) (fun _ _ => by kernel_rfl)
noncomputable def ref01_digit_s2_se : SQ := stmtQ [(0, .int .u8)] [(24, .bool)] [(2, .int .i64)] [(24, 31)] (fun x w => ref01_digit_s2 x.1)
theorem ref01_digit_s2_se_ok (R : Rg) (h : subRB [(24, 31)] R = true) : (ref01_digit_s2_se).Ok prog R (cd (bodyOf f28) [1, 0, 0, 1, 1, 1, 1, 0]) := stmtQ_ok (Li := [(0, .int .u8)]) (Lo := [(24, .bool)]) (Lr := [(2, .int .i64)]) (S := (fun x w => ref01_digit_s2 x.1)) (ref01_digit_s2_ok) (subR_of h)
theorem ref01_digit_facts : FunFacts prog 28 f28 (bodyOf f28) [(0, .int .u8)] [(0, 35)] := ⟨func28, by kernel_rfl, by kernel_rfl, by kernel_rfl, by kernel_rfl, by kernel_rfl⟩
theorem ref01_digit_calls (x : TT [(0, .int .u8)]) (w : World) (y : TR [.int .i64]) (h : ref01_digit x.1 = some y) : Calls prog 28 (encA [(0, .int .u8)] x).toArray w (fun e w3 => e = .returned (resV (encR [.int .i64] y)) ∧ w3 = w) :=
    mk_funQ (O := tabL [([1, 0, 0, 0], ref01_digit_s0_se), ([1, 0, 0, 1, 1, 0], ref01_digit_s1_se), ([1, 0, 0, 1, 1, 1, 1, 0], ref01_digit_s2_se)]) (Lp := [(0, .int .u8)]) (Rt := [.int .i64]) (S := (fun x w => ref01_digit x.1)) (ref01_digit_Rok) ref01_digit_facts (OrcQ.cons (by kernel_rfl) (ref01_digit_s0_se_ok [(0, 35)] (by kernel_rfl)) (OrcQ.cons (by kernel_rfl) (ref01_digit_s1_se_ok [(0, 35)] (by kernel_rfl)) (OrcQ.cons (by kernel_rfl) (ref01_digit_s2_se_ok [(0, 35)] (by kernel_rfl)) (OrcQ.nil _ _ _)))) (fun _ _ => by kernel_rfl) x w y h
noncomputable def ref01_digit_re : RE := funR [(0, .int .u8)] [.int .i64] (fun x w => ref01_digit x.1)
theorem ref01_digit_ok : (ref01_digit_re).Ok prog 28 := funR_ok (Rt := [.int .i64]) (S := (fun x w => ref01_digit x.1)) ref01_digit_facts fun x w y h => ref01_digit_calls x w y h

noncomputable def ref01_FromHex_E (K : Nat) : List (Nat × CE) := []
theorem ref01_FromHex_Eok (K : Nat) : Env.Ok prog (tab (ref01_FromHex_E K)) := (Env.nil _)
noncomputable def ref01_FromHex_R (K : Nat) : List (Nat × RE) := [(28, ref01_digit_re)]
theorem ref01_FromHex_Rok (K : Nat) : REnv.Ok prog (tab (ref01_FromHex_R K)) := (REnv.cons (ref01_digit_ok) (REnv.nil _))
noncomputable def ref01_FromHex_l0_b (K : Nat) (rec : ByteArray → Int → World → Option ((Out (Unit) (Sl × Int × Int × Unit)) × World)) (s0 : ByteArray) (i5 : Int) (w : World) : Option ((Out (Unit) (Sl × Int × Int × Unit)) × World) :=
  if (decide (i5 < ((s0.size : Nat) : Int))) = true then (if (0 : Int) ≤ i5 then ((s0[(Int.toNat i5)]?).bind fun b_1 =>
  (ref01_digit ((b_1.toNat : Nat) : Int)).bind fun r_2 =>
  if (decide (r_2.1 < 0)) = true then (some (.ret (⟨none, 0, 0⟩, 13, i5, ()), w)) else (rec s0 (IntKind.i64.wrap (i5 + 1)) w)) else none) else (some (.norm (), w))
noncomputable def ref01_FromHex_l0 (K : Nat) (n : Nat) : ByteArray → Int → World → Option ((Out (Unit) (Sl × Int × Int × Unit)) × World) := iter (fun _ _ _ => none) (ref01_FromHex_l0_b K) n
noncomputable def ref01_FromHex_l1_b (K : Nat) (rec : ByteArray → Sl → Int → World → Option ((Sl × Unit) × World)) (s0 : ByteArray) (out6 : Sl) (i7 : Int) (w : World) : Option ((Sl × Unit) × World) :=
  if (decide (i7 < ((s0.size : Nat) : Int))) = true then (if (0 : Int) ≤ i7 then ((s0[(Int.toNat i7)]?).bind fun b_6 =>
  if (0 : Int) ≤ (IntKind.i64.wrap (i7 + 1)) then ((s0[(Int.toNat (IntKind.i64.wrap (i7 + 1)))]?).bind fun b_7 =>
  (ref01_digit ((b_6.toNat : Nat) : Int)).bind fun r_8 =>
  (ref01_digit ((b_7.toNat : Nat) : Int)).bind fun r_9 =>
  bnd (bldS prog 25 1 #[(0, (.int .u8 (IntKind.u8.wrap (IntKind.i64.wrap ((IntKind.i64.wrap (16 * r_8.1)) + r_9.1)))))] w.drew) fun s_10 w_11 =>
  bnd (apd prog 25 25 (.slice out6.a out6.len out6.cap) (.slice s_10.a s_10.len s_10.cap) w_11) fun s_12 w_13 =>
  rec s0 s_12 (IntKind.i64.wrap (i7 + 2)) w_13) else none) else none) else (some ((out6, ()), w))
noncomputable def ref01_FromHex_l1 (K : Nat) (n : Nat) : ByteArray → Sl → Int → World → Option ((Sl × Unit) × World) := iter (fun _ _ _ _ => none) (ref01_FromHex_l1_b K) n
/-- coffer/cofferref01.FromHex -/
noncomputable def ref01_FromHex (K : Nat) (s0 : ByteArray) (w : World) : Option ((Sl × Int × Int × Unit) × World) :=
  if (decide (((s0.size : Nat) : Int) > 16777216)) = true then (some ((⟨none, 0, 0⟩, 4, 0, ()), w)) else (bnd (ref01_FromHex_l0 K K s0 0 w) fun y_3 w_4 =>
  (match y_3 with
  | .norm z_5n => (if ((Int.tmod ((s0.size : Nat) : Int) 2) == 1) = true then (some ((⟨none, 0, 0⟩, 13, ((s0.size : Nat) : Int), ()), w_4)) else (bnd (ref01_FromHex_l1 K K s0 ⟨none, 0, 0⟩ 0 w_4) fun y_14 w_15 =>
  some ((y_14.1, 0, 0, ()), w_15)))
  | .ret z_5r => (some ((z_5r.1, z_5r.2.1, z_5r.2.2.1, ()), w_4))))
theorem ref01_FromHex_l0_ok (K : Nat) (n : Nat) : StmtOk prog [(0, .str), (5, .int .i64)] [] [(2, .sl), (3, .int .i64), (4, .int .i64)] [(2, 6), (11, 23)] ((fun n x w => ref01_FromHex_l0 K n x.1 x.2.1 w) n) (.block 0 (.loop (cd (bodyOf f19) [1, 1, 0, 1, 0, 0]))) :=
    mk_loop (O := tabL []) (root := (bodyOf f19)) (π := [1, 1, 0, 1, 0, 0]) (id := 0) (Li := [(0, .str), (5, .int .i64)]) (Lo := []) (Lr := [(2, .sl), (3, .int .i64), (4, .int .i64)]) (S := (fun n x w => ref01_FromHex_l0 K n x.1 x.2.1 w)) (body := cd (bodyOf f19) [1, 1, 0, 1, 0, 0]) (ref01_FromHex_Eok K) (ref01_FromHex_Rok K) rfl (Orc.nil _ _ _) (by kernel_rfl) (fun _ _ => by kernel_rfl) (fun _ _ _ => by kernel_rfl) n
noncomputable def ref01_FromHex_l0_se (K : Nat) : SE := stmt [(0, .str), (5, .int .i64)] [] [(2, .sl), (3, .int .i64), (4, .int .i64)] [(2, 6), (11, 23)] (fun x w => ref01_FromHex_l0 K K x.1 x.2.1 w)
theorem ref01_FromHex_l0_se_ok (K : Nat) (R : Rg) (h : subRB [(2, 6), (11, 23)] R = true) : (ref01_FromHex_l0_se K).Ok prog R (.block 0 (.loop (cd (bodyOf f19) [1, 1, 0, 1, 0, 0]))) := stmt_ok (Li := [(0, .str), (5, .int .i64)]) (Lo := []) (Lr := [(2, .sl), (3, .int .i64), (4, .int .i64)]) (S := (fun x w => ref01_FromHex_l0 K K x.1 x.2.1 w)) (ref01_FromHex_l0_ok K K) (subR_of h)
theorem ref01_FromHex_l1_ok (K : Nat) (n : Nat) : StmtNOk prog [(0, .str), (6, .sl), (7, .int .i64)] [(6, .sl)] [(6, 8), (29, 50)] ((fun n x w => ref01_FromHex_l1 K n x.1 x.2.1 x.2.2.1 w) n) (.block 2 (.loop (cd (bodyOf f19) [1, 1, 1, 1, 1, 0, 1, 0, 0]))) :=
    mk_loopN (O := tabL []) (root := (bodyOf f19)) (π := [1, 1, 1, 1, 1, 0, 1, 0, 0]) (id := 2) (Li := [(0, .str), (6, .sl), (7, .int .i64)]) (Lo := [(6, .sl)]) (S := (fun n x w => ref01_FromHex_l1 K n x.1 x.2.1 x.2.2.1 w)) (body := cd (bodyOf f19) [1, 1, 1, 1, 1, 0, 1, 0, 0]) (ref01_FromHex_Eok K) (ref01_FromHex_Rok K) rfl (Orc.nil _ _ _) (by kernel_rfl) (fun _ _ => by kernel_rfl) (fun _ _ _ => by kernel_rfl) n
noncomputable def ref01_FromHex_l1_se (K : Nat) : SE := stmtN [(0, .str), (6, .sl), (7, .int .i64)] [(6, .sl)] [(6, 8), (29, 50)] (fun x w => ref01_FromHex_l1 K K x.1 x.2.1 x.2.2.1 w)
theorem ref01_FromHex_l1_se_ok (K : Nat) (R : Rg) (h : subRB [(6, 8), (29, 50)] R = true) : (ref01_FromHex_l1_se K).Ok prog R (.block 2 (.loop (cd (bodyOf f19) [1, 1, 1, 1, 1, 0, 1, 0, 0]))) := stmtN_ok (Li := [(0, .str), (6, .sl), (7, .int .i64)]) (Lo := [(6, .sl)]) (S := (fun x w => ref01_FromHex_l1 K K x.1 x.2.1 x.2.2.1 w)) (ref01_FromHex_l1_ok K K) (subR_of h)
theorem ref01_FromHex_facts : FunFacts prog 19 f19 (bodyOf f19) [(0, .str)] [(0, 51)] := ⟨func19, by kernel_rfl, by kernel_rfl, by kernel_rfl, by kernel_rfl, by kernel_rfl⟩
theorem ref01_FromHex_calls (K : Nat) (x : TT [(0, .str)]) (w : World) (y : TR [.sl, .int .i64, .int .i64]) (w2 : World) (h : ref01_FromHex K x.1 w = some (y, w2)) : Calls prog 19 (encA [(0, .str)] x).toArray w (fun e w3 => e = .returned (resV (encR [.sl, .int .i64, .int .i64] y)) ∧ w3 = w2) :=
    mk_fun (O := tabL [([1, 1, 0, 1], ref01_FromHex_l0_se K), ([1, 1, 1, 1, 1, 0, 1], ref01_FromHex_l1_se K)]) (Lp := [(0, .str)]) (Rt := [.sl, .int .i64, .int .i64]) (S := (fun x w => ref01_FromHex K x.1 w)) (ref01_FromHex_Eok K) (ref01_FromHex_Rok K) rfl ref01_FromHex_facts (Orc.cons (by kernel_rfl) (ref01_FromHex_l0_se_ok K [(0, 51)] (by kernel_rfl)) (Orc.cons (by kernel_rfl) (ref01_FromHex_l1_se_ok K [(0, 51)] (by kernel_rfl)) (Orc.nil _ _ _))) (fun _ _ => by kernel_rfl) x w y w2 h
noncomputable def ref01_FromHex_ce (K : Nat) : CE := funE [(0, .str)] [.sl, .int .i64, .int .i64] (fun x w => ref01_FromHex K x.1 w)
theorem ref01_FromHex_ok (K : Nat) : (ref01_FromHex_ce K).Ok prog 19 := funE_ok (Rt := [.sl, .int .i64, .int .i64]) (S := (fun x w => ref01_FromHex K x.1 w)) ref01_FromHex_facts fun x w y w2 h => ref01_FromHex_calls K x w y w2 h

end Go.Sh
