/- Texts of this claim, put together: Sh0, Sh1 -/
import Derived.Test.YteomkfcfhlljkaaAllFwalplbn
import Derived.Test.YteomkfcfhlljkaaProg
/- What functions of the program do, as Lean functions; that the machine does just that. Printed by shal.py, a program of this claim's writer. -/
set_option maxRecDepth 100000
set_option linter.unusedVariables false
namespace Go.Sh
open Go.Fw Go.Proofs.Try
def z4 : Array Value := ([.bool false] : List Value).toArray
def z25 : Array Value := ([.slice none 0 0] : List Value).toArray
def z33 : Array Value := ([.int .u16 0] ++ List.replicate 3 (.int .i64 0) : List Value).toArray
def z35 : Array Value := ([.int .u16 0] ++ List.replicate 3 (.int .i64 0) ++ [.slice none 0 0] ++ [.int .i64 0] : List Value).toArray
def z55 : Array Value := ([.int .u16 0] ++ List.replicate 3 (.int .i64 0) ++ [.slice none 0 0] : List Value).toArray
def z60 : Array Value := Array.replicate 4 (.int .u8 0)
def z64 : Array Value := Array.replicate 256 (.int .u8 0)
def z71 : Array Value := Array.replicate 4 (.int .u8 0)
def str0 : ByteArray := ⟨#[]⟩
def str1 : ByteArray := ⟨#[98, 100, 102, 103, 104, 106, 107, 108, 109, 110, 112, 114, 115, 116, 118, 122]⟩
def str2 : ByteArray := ⟨#[97, 105, 111, 117]⟩
def str3 : ByteArray := ⟨#[32]⟩

noncomputable def law11_EscrowNames_R : List (Nat × RE) := []
theorem law11_EscrowNames_Rok : REnv.Ok prog (tab (law11_EscrowNames_R)) := (REnv.nil _)
/-- coffer/cofferlaw11.EscrowNames -/
noncomputable def law11_EscrowNames  : Option (Bool × Unit) :=
  some (true, ())
theorem law11_EscrowNames_facts : FunFacts prog 3 f3 (bodyOf f3) [] [(0, 1)] := ⟨func3, by kernel_rfl, by kernel_rfl, by kernel_rfl, by kernel_rfl, by kernel_rfl⟩
theorem law11_EscrowNames_calls (x : TT []) (w : World) (y : TR [.bool]) (h : law11_EscrowNames  = some y) : Calls prog 3 (encA [] x).toArray w (fun e w3 => e = .returned (resV (encR [.bool] y)) ∧ w3 = w) :=
    mk_funQ (O := tabL []) (Lp := []) (Rt := [.bool]) (S := (fun x w => law11_EscrowNames )) (law11_EscrowNames_Rok) law11_EscrowNames_facts (OrcQ.nil _ _ _) (fun _ _ => by kernel_rfl) x w y h
noncomputable def law11_EscrowNames_re : RE := funR [] [.bool] (fun x w => law11_EscrowNames )
theorem law11_EscrowNames_ok : (law11_EscrowNames_re).Ok prog 3 := funR_ok (Rt := [.bool]) (S := (fun x w => law11_EscrowNames )) law11_EscrowNames_facts fun x w y h => law11_EscrowNames_calls x w y h

noncomputable def escrow_Random_R : List (Nat × RE) := []
theorem escrow_Random_Rok : REnv.Ok prog (tab (escrow_Random_R)) := (REnv.nil _)
noncomputable def escrow_Random_s0 (need0 : Int) (size1 : Int) : Option (Out (Bool × Unit) (Int × Unit)) :=
  if (decide (need0 < 1)) = true then (some (.norm (true, ()))) else (if (decide (need0 > 16)) = true then (some (.norm (true, ()))) else (if (decide (size1 < 1)) = true then (some (.norm (true, ()))) else (some (.norm ((decide (size1 > 64)), ())))))
/-- coffer/escrow.Random -/
noncomputable def escrow_Random (need0 : Int) (size1 : Int) : Option (Int × Unit) :=
  (escrow_Random_s0 need0 size1).bind fun y_1 =>
  (match y_1 with
  | .norm z_2n => (if z_2n.1 = true then (some (0, ())) else (some ((IntKind.i64.wrap ((IntKind.i64.wrap (need0 - 1)) * (IntKind.i64.wrap (size1 + 4)))), ())))
  | .ret z_2r => (some (z_2r.1, ())))
theorem escrow_Random_s0_ok : StmtQOk prog [(0, .int .i64), (1, .int .i64)] [(18, .bool)] [(4, .int .i64)] [(5, 19)] (fun x w => escrow_Random_s0 x.1 x.2.1) (cd (bodyOf f7) [1, 0, 0]) :=
    mk_stmtQ (O := tabL []) (root := (bodyOf f7)) (π := [1, 0, 0]) (Li := [(0, .int .i64), (1, .int .i64)]) (Lo := [(18, .bool)]) (Lr := [(4, .int .i64)]) (S := (fun x w => escrow_Random_s0 x.1 x.2.1)) (escrow_Random_Rok) (OrcQ.nil _ _ _) (by kernel_rfl) (fun _ _ => by kernel_rfl)
noncomputable def escrow_Random_s0_se : SQ := stmtQ [(0, .int .i64), (1, .int .i64)] [(18, .bool)] [(4, .int .i64)] [(5, 19)] (fun x w => escrow_Random_s0 x.1 x.2.1)
theorem escrow_Random_s0_se_ok (R : Rg) (h : subRB [(5, 19)] R = true) : (escrow_Random_s0_se).Ok prog R (cd (bodyOf f7) [1, 0, 0]) := stmtQ_ok (Li := [(0, .int .i64), (1, .int .i64)]) (Lo := [(18, .bool)]) (Lr := [(4, .int .i64)]) (S := (fun x w => escrow_Random_s0 x.1 x.2.1)) (escrow_Random_s0_ok) (subR_of h)
theorem escrow_Random_facts : FunFacts prog 7 f7 (bodyOf f7) [(0, .int .i64), (1, .int .i64)] [(0, 24)] := ⟨func7, by kernel_rfl, by kernel_rfl, by kernel_rfl, by kernel_rfl, by kernel_rfl⟩
theorem escrow_Random_calls (x : TT [(0, .int .i64), (1, .int .i64)]) (w : World) (y : TR [.int .i64]) (h : escrow_Random x.1 x.2.1 = some y) : Calls prog 7 (encA [(0, .int .i64), (1, .int .i64)] x).toArray w (fun e w3 => e = .returned (resV (encR [.int .i64] y)) ∧ w3 = w) :=
    mk_funQ (O := tabL [([1, 0, 0], escrow_Random_s0_se)]) (Lp := [(0, .int .i64), (1, .int .i64)]) (Rt := [.int .i64]) (S := (fun x w => escrow_Random x.1 x.2.1)) (escrow_Random_Rok) escrow_Random_facts (OrcQ.cons (by kernel_rfl) (escrow_Random_s0_se_ok [(0, 24)] (by kernel_rfl)) (OrcQ.nil _ _ _)) (fun _ _ => by kernel_rfl) x w y h
noncomputable def escrow_Random_re : RE := funR [(0, .int .i64), (1, .int .i64)] [.int .i64] (fun x w => escrow_Random x.1 x.2.1)
theorem escrow_Random_ok : (escrow_Random_re).Ok prog 7 := funR_ok (Rt := [.int .i64]) (S := (fun x w => escrow_Random x.1 x.2.1)) escrow_Random_facts fun x w y h => escrow_Random_calls x w y h

noncomputable def ref11_Random_R : List (Nat × RE) := []
theorem ref11_Random_Rok : REnv.Ok prog (tab (ref11_Random_R)) := (REnv.nil _)
noncomputable def ref11_Random_s0 (need0 : Int) (size1 : Int) : Option (Out (Bool × Unit) (Int × Unit)) :=
  if (decide (need0 < 1)) = true then (some (.norm (true, ()))) else (if (decide (need0 > 16)) = true then (some (.norm (true, ()))) else (if (decide (size1 < 1)) = true then (some (.norm (true, ()))) else (some (.norm ((decide (size1 > 64)), ())))))
/-- coffer/cofferref11.Random -/
noncomputable def ref11_Random (need0 : Int) (size1 : Int) : Option (Int × Unit) :=
  (ref11_Random_s0 need0 size1).bind fun y_1 =>
  (match y_1 with
  | .norm z_2n => (if z_2n.1 = true then (some (0, ())) else (some ((IntKind.i64.wrap ((IntKind.i64.wrap (need0 - 1)) * (IntKind.i64.wrap (size1 + 4)))), ())))
  | .ret z_2r => (some (z_2r.1, ())))
theorem ref11_Random_s0_ok : StmtQOk prog [(0, .int .i64), (1, .int .i64)] [(18, .bool)] [(4, .int .i64)] [(5, 19)] (fun x w => ref11_Random_s0 x.1 x.2.1) (cd (bodyOf f8) [1, 0, 0]) :=
    mk_stmtQ (O := tabL []) (root := (bodyOf f8)) (π := [1, 0, 0]) (Li := [(0, .int .i64), (1, .int .i64)]) (Lo := [(18, .bool)]) (Lr := [(4, .int .i64)]) (S := (fun x w => ref11_Random_s0 x.1 x.2.1)) (ref11_Random_Rok) (OrcQ.nil _ _ _) (by kernel_rfl) (fun _ _ => by kernel_rfl)
noncomputable def ref11_Random_s0_se : SQ := stmtQ [(0, .int .i64), (1, .int .i64)] [(18, .bool)] [(4, .int .i64)] [(5, 19)] (fun x w => ref11_Random_s0 x.1 x.2.1)
theorem ref11_Random_s0_se_ok (R : Rg) (h : subRB [(5, 19)] R = true) : (ref11_Random_s0_se).Ok prog R (cd (bodyOf f8) [1, 0, 0]) := stmtQ_ok (Li := [(0, .int .i64), (1, .int .i64)]) (Lo := [(18, .bool)]) (Lr := [(4, .int .i64)]) (S := (fun x w => ref11_Random_s0 x.1 x.2.1)) (ref11_Random_s0_ok) (subR_of h)
theorem ref11_Random_facts : FunFacts prog 8 f8 (bodyOf f8) [(0, .int .i64), (1, .int .i64)] [(0, 24)] := ⟨func8, by kernel_rfl, by kernel_rfl, by kernel_rfl, by kernel_rfl, by kernel_rfl⟩
theorem ref11_Random_calls (x : TT [(0, .int .i64), (1, .int .i64)]) (w : World) (y : TR [.int .i64]) (h : ref11_Random x.1 x.2.1 = some y) : Calls prog 8 (encA [(0, .int .i64), (1, .int .i64)] x).toArray w (fun e w3 => e = .returned (resV (encR [.int .i64] y)) ∧ w3 = w) :=
    mk_funQ (O := tabL [([1, 0, 0], ref11_Random_s0_se)]) (Lp := [(0, .int .i64), (1, .int .i64)]) (Rt := [.int .i64]) (S := (fun x w => ref11_Random x.1 x.2.1)) (ref11_Random_Rok) ref11_Random_facts (OrcQ.cons (by kernel_rfl) (ref11_Random_s0_se_ok [(0, 24)] (by kernel_rfl)) (OrcQ.nil _ _ _)) (fun _ _ => by kernel_rfl) x w y h
noncomputable def ref11_Random_re : RE := funR [(0, .int .i64), (1, .int .i64)] [.int .i64] (fun x w => ref11_Random x.1 x.2.1)
theorem ref11_Random_ok : (ref11_Random_re).Ok prog 8 := funR_ok (Rt := [.int .i64]) (S := (fun x w => ref11_Random x.1 x.2.1)) ref11_Random_facts fun x w y h => ref11_Random_calls x w y h

noncomputable def law11_EscrowRandoms_R : List (Nat × RE) := [(7, escrow_Random_re), (8, ref11_Random_re)]
theorem law11_EscrowRandoms_Rok : REnv.Ok prog (tab (law11_EscrowRandoms_R)) := (REnv.cons (escrow_Random_ok) (REnv.cons (ref11_Random_ok) (REnv.nil _)))
/-- coffer/cofferlaw11.EscrowRandoms -/
noncomputable def law11_EscrowRandoms (need0 : Int) (size1 : Int) : Option (Bool × Unit) :=
  (escrow_Random need0 size1).bind fun r_1 =>
  (ref11_Random need0 size1).bind fun r_2 =>
  some ((r_1.1 == r_2.1), ())
theorem law11_EscrowRandoms_facts : FunFacts prog 4 f4 (bodyOf f4) [(0, .int .i64), (1, .int .i64)] [(0, 12)] := ⟨func4, by kernel_rfl, by kernel_rfl, by kernel_rfl, by kernel_rfl, by kernel_rfl⟩
theorem law11_EscrowRandoms_calls (x : TT [(0, .int .i64), (1, .int .i64)]) (w : World) (y : TR [.bool]) (h : law11_EscrowRandoms x.1 x.2.1 = some y) : Calls prog 4 (encA [(0, .int .i64), (1, .int .i64)] x).toArray w (fun e w3 => e = .returned (resV (encR [.bool] y)) ∧ w3 = w) :=
    mk_funQ (O := tabL []) (Lp := [(0, .int .i64), (1, .int .i64)]) (Rt := [.bool]) (S := (fun x w => law11_EscrowRandoms x.1 x.2.1)) (law11_EscrowRandoms_Rok) law11_EscrowRandoms_facts (OrcQ.nil _ _ _) (fun _ _ => by kernel_rfl) x w y h
noncomputable def law11_EscrowRandoms_re : RE := funR [(0, .int .i64), (1, .int .i64)] [.bool] (fun x w => law11_EscrowRandoms x.1 x.2.1)
theorem law11_EscrowRandoms_ok : (law11_EscrowRandoms_re).Ok prog 4 := funR_ok (Rt := [.bool]) (S := (fun x w => law11_EscrowRandoms x.1 x.2.1)) law11_EscrowRandoms_facts fun x w y h => law11_EscrowRandoms_calls x w y h

noncomputable def law11_cut_R : List (Nat × RE) := []
theorem law11_cut_Rok : REnv.Ok prog (tab (law11_cut_R)) := (REnv.nil _)
/-- coffer/cofferlaw11.cut -/
noncomputable def law11_cut (b0 : Sl) (most1 : Int) : Option (Sl × Unit) :=
  if (decide (((b0.len : Nat) : Int) > most1)) = true then (if (0 : Int) ≤ most1 ∧ most1 ≤ ((b0.cap : Nat) : Int) then (some (⟨(sla b0.a 0 b0.cap 1), ((Int.toNat (most1)) - 0), (b0.cap - 0)⟩, ())) else none) else (some (b0, ()))
theorem law11_cut_facts : FunFacts prog 9 f9 (bodyOf f9) [(0, .sl), (1, .int .i64)] [(0, 13)] := ⟨func9, by kernel_rfl, by kernel_rfl, by kernel_rfl, by kernel_rfl, by kernel_rfl⟩
theorem law11_cut_calls (x : TT [(0, .sl), (1, .int .i64)]) (w : World) (y : TR [.sl]) (h : law11_cut x.1 x.2.1 = some y) : Calls prog 9 (encA [(0, .sl), (1, .int .i64)] x).toArray w (fun e w3 => e = .returned (resV (encR [.sl] y)) ∧ w3 = w) :=
    mk_funQ (O := tabL []) (Lp := [(0, .sl), (1, .int .i64)]) (Rt := [.sl]) (S := (fun x w => law11_cut x.1 x.2.1)) (law11_cut_Rok) law11_cut_facts (OrcQ.nil _ _ _) (fun _ _ => by kernel_rfl) x w y h
noncomputable def law11_cut_re : RE := funR [(0, .sl), (1, .int .i64)] [.sl] (fun x w => law11_cut x.1 x.2.1)
theorem law11_cut_ok : (law11_cut_re).Ok prog 9 := funR_ok (Rt := [.sl]) (S := (fun x w => law11_cut x.1 x.2.1)) law11_cut_facts fun x w y h => law11_cut_calls x w y h

noncomputable def book_Bytes_E (K : Nat) : List (Nat × CE) := []
theorem book_Bytes_Eok (K : Nat) : Env.Ok prog (tab (book_Bytes_E K)) := (Env.nil _)
noncomputable def book_Bytes_R (K : Nat) : List (Nat × RE) := []
theorem book_Bytes_Rok (K : Nat) : REnv.Ok prog (tab (book_Bytes_R K)) := (REnv.nil _)
noncomputable def book_Bytes_l0_b (K : Nat) (rec : Sl → Sl → Int → World → Option ((Sl × Unit) × World)) (l0 : Sl) (c3 : Sl) (i4 : Int) (w : World) : Option ((Sl × Unit) × World) :=
  if (decide (i4 < 70)) = true then (bnd (bldS prog 25 1 #[(0, (.int .u8 (IntKind.u8.wrap (IntKind.i64.wrap (181 + i4)))))] w) fun s_3 w_4 =>
  bnd (apd prog 25 25 (.slice c3.a c3.len c3.cap) (.slice s_3.a s_3.len s_3.cap) w_4) fun s_5 w_6 =>
  rec l0 s_5 (IntKind.i64.wrap (i4 + 1)) w_6) else (some ((c3, ()), w))
noncomputable def book_Bytes_l0 (K : Nat) (n : Nat) : Sl → Sl → Int → World → Option ((Sl × Unit) × World) := iter (fun _ _ _ _ => none) (book_Bytes_l0_b K) n
/-- coffer/cofferbook.Bytes -/
noncomputable def book_Bytes (K : Nat) (l0 : Sl) (w : World) : Option ((Sl × Unit) × World) :=
  bnd (apd prog 25 25 (.slice none 0 0) (.slice l0.a l0.len l0.cap) w) fun s_1 w_2 =>
  bnd (book_Bytes_l0 K K l0 s_1 0 w_2) fun y_7 w_8 =>
  if (0 : Int) ≤ ((l0.len : Nat) : Int) ∧ ((l0.len : Nat) : Int) ≤ ((y_7.1.cap : Nat) : Int) then (some ((⟨(sla y_7.1.a 0 y_7.1.cap 1), ((Int.toNat (((l0.len : Nat) : Int))) - 0), (y_7.1.cap - 0)⟩, ()), w_8)) else none
theorem book_Bytes_l0_ok (K : Nat) (n : Nat) : StmtNOk prog [(0, .sl), (3, .sl), (4, .int .i64)] [(3, .sl)] [(3, 5), (9, 19)] ((fun n x w => book_Bytes_l0 K n x.1 x.2.1 x.2.2.1 w) n) (.block 0 (.loop (cd (bodyOf f10) [1, 1, 1, 0, 1, 0, 0]))) :=
    mk_loopN (O := tabL []) (root := (bodyOf f10)) (π := [1, 1, 1, 0, 1, 0, 0]) (id := 0) (Li := [(0, .sl), (3, .sl), (4, .int .i64)]) (Lo := [(3, .sl)]) (S := (fun n x w => book_Bytes_l0 K n x.1 x.2.1 x.2.2.1 w)) (body := cd (bodyOf f10) [1, 1, 1, 0, 1, 0, 0]) (book_Bytes_Eok K) (book_Bytes_Rok K) rfl (Orc.nil _ _ _) (by kernel_rfl) (fun _ _ => by kernel_rfl) (fun _ _ _ => by kernel_rfl) n
noncomputable def book_Bytes_l0_se (K : Nat) : SE := stmtN [(0, .sl), (3, .sl), (4, .int .i64)] [(3, .sl)] [(3, 5), (9, 19)] (fun x w => book_Bytes_l0 K K x.1 x.2.1 x.2.2.1 w)
theorem book_Bytes_l0_se_ok (K : Nat) (R : Rg) (h : subRB [(3, 5), (9, 19)] R = true) : (book_Bytes_l0_se K).Ok prog R (.block 0 (.loop (cd (bodyOf f10) [1, 1, 1, 0, 1, 0, 0]))) := stmtN_ok (Li := [(0, .sl), (3, .sl), (4, .int .i64)]) (Lo := [(3, .sl)]) (S := (fun x w => book_Bytes_l0 K K x.1 x.2.1 x.2.2.1 w)) (book_Bytes_l0_ok K K) (subR_of h)
theorem book_Bytes_facts : FunFacts prog 10 f10 (bodyOf f10) [(0, .sl)] [(0, 24)] := ⟨func10, by kernel_rfl, by kernel_rfl, by kernel_rfl, by kernel_rfl, by kernel_rfl⟩
theorem book_Bytes_calls (K : Nat) (x : TT [(0, .sl)]) (w : World) (y : TR [.sl]) (w2 : World) (h : book_Bytes K x.1 w = some (y, w2)) : Calls prog 10 (encA [(0, .sl)] x).toArray w (fun e w3 => e = .returned (resV (encR [.sl] y)) ∧ w3 = w2) :=
    mk_fun (O := tabL [([1, 1, 1, 0, 1], book_Bytes_l0_se K)]) (Lp := [(0, .sl)]) (Rt := [.sl]) (S := (fun x w => book_Bytes K x.1 w)) (book_Bytes_Eok K) (book_Bytes_Rok K) rfl book_Bytes_facts (Orc.cons (by kernel_rfl) (book_Bytes_l0_se_ok K [(0, 24)] (by kernel_rfl)) (Orc.nil _ _ _)) (fun _ _ => by kernel_rfl) x w y w2 h
noncomputable def book_Bytes_ce (K : Nat) : CE := funE [(0, .sl)] [.sl] (fun x w => book_Bytes K x.1 w)
theorem book_Bytes_ok (K : Nat) : (book_Bytes_ce K).Ok prog 10 := funE_ok (Rt := [.sl]) (S := (fun x w => book_Bytes K x.1 w)) book_Bytes_facts fun x w y w2 h => book_Bytes_calls K x w y w2 h

noncomputable def escrow_Words_E (K : Nat) : List (Nat × CE) := []
theorem escrow_Words_Eok (K : Nat) : Env.Ok prog (tab (escrow_Words_E K)) := (Env.nil _)
noncomputable def escrow_Words_R (K : Nat) : List (Nat × RE) := []
theorem escrow_Words_Rok (K : Nat) : REnv.Ok prog (tab (escrow_Words_R K)) := (REnv.nil _)
noncomputable def escrow_Words_s1 (K : Nat) (out3 : Sl) (a14 : Bool) (w : World) : Option ((Sl × Unit) × World) :=
  if a14 = true then (bnd (bldS prog 25 1 #[(0, (.int .u8 32))] w) fun s_1 w_2 =>
  bnd (apd prog 25 25 (.slice out3.a out3.len out3.cap) (.slice s_1.a s_1.len s_1.cap) w_2) fun s_3 w_4 =>
  some ((s_3, ()), w_4)) else (some ((out3, ()), w))
noncomputable def escrow_Words_l0_b (K : Nat) (rec : Sl → Sl → Int → World → Option ((Sl × Unit) × World)) (b0 : Sl) (out3 : Sl) (i4 : Int) (w : World) : Option ((Sl × Unit) × World) :=
  if (decide ((IntKind.i64.wrap (i4 + 1)) < ((b0.len : Nat) : Int))) = true then (bnd (escrow_Words_s1 K out3 (decide (i4 > 0)) w) fun y_5 w_6 =>
  (b0.a).bind fun p_7 =>
  if (0 : Int) ≤ i4 ∧ i4 < ((b0.len : Nat) : Int) then ((b0.a).bind fun p_8 =>
  if (0 : Int) ≤ (IntKind.i64.wrap (i4 + 1)) ∧ (IntKind.i64.wrap (i4 + 1)) < ((b0.len : Nat) : Int) then ((ldI .u8 (p_7.add ((Int.toNat i4) * 1)) w_6.drew).bind fun v_9 =>
  (ldI .u8 (p_8.add ((Int.toNat (IntKind.i64.wrap (i4 + 1))) * 1)) w_6.drew).bind fun v_10 =>
  if (0 : Int) ≤ (Int.fdiv (bits .or .i64 (IntKind.i64.wrap ((IntKind.i64.wrap v_9) * 2 ^ 8)) (IntKind.i64.wrap v_10)) (2 ^ 12)) then ((str1[(Int.toNat (Int.fdiv (bits .or .i64 (IntKind.i64.wrap ((IntKind.i64.wrap v_9) * 2 ^ 8)) (IntKind.i64.wrap v_10)) (2 ^ 12)))]?).bind fun b_11 =>
  if (0 : Int) ≤ (bits .and .i64 (Int.fdiv (bits .or .i64 (IntKind.i64.wrap ((IntKind.i64.wrap v_9) * 2 ^ 8)) (IntKind.i64.wrap v_10)) (2 ^ 10)) 3) then ((str2[(Int.toNat (bits .and .i64 (Int.fdiv (bits .or .i64 (IntKind.i64.wrap ((IntKind.i64.wrap v_9) * 2 ^ 8)) (IntKind.i64.wrap v_10)) (2 ^ 10)) 3))]?).bind fun b_12 =>
  if (0 : Int) ≤ (bits .and .i64 (Int.fdiv (bits .or .i64 (IntKind.i64.wrap ((IntKind.i64.wrap v_9) * 2 ^ 8)) (IntKind.i64.wrap v_10)) (2 ^ 6)) 15) then ((str1[(Int.toNat (bits .and .i64 (Int.fdiv (bits .or .i64 (IntKind.i64.wrap ((IntKind.i64.wrap v_9) * 2 ^ 8)) (IntKind.i64.wrap v_10)) (2 ^ 6)) 15))]?).bind fun b_13 =>
  if (0 : Int) ≤ (bits .and .i64 (Int.fdiv (bits .or .i64 (IntKind.i64.wrap ((IntKind.i64.wrap v_9) * 2 ^ 8)) (IntKind.i64.wrap v_10)) (2 ^ 4)) 3) then ((str2[(Int.toNat (bits .and .i64 (Int.fdiv (bits .or .i64 (IntKind.i64.wrap ((IntKind.i64.wrap v_9) * 2 ^ 8)) (IntKind.i64.wrap v_10)) (2 ^ 4)) 3))]?).bind fun b_14 =>
  if (0 : Int) ≤ (bits .and .i64 (bits .or .i64 (IntKind.i64.wrap ((IntKind.i64.wrap v_9) * 2 ^ 8)) (IntKind.i64.wrap v_10)) 15) then ((str1[(Int.toNat (bits .and .i64 (bits .or .i64 (IntKind.i64.wrap ((IntKind.i64.wrap v_9) * 2 ^ 8)) (IntKind.i64.wrap v_10)) 15))]?).bind fun b_15 =>
  bnd (bldS prog 25 5 #[(0, (.int .u8 ((b_11.toNat : Nat) : Int))), (1, (.int .u8 ((b_12.toNat : Nat) : Int))), (2, (.int .u8 ((b_13.toNat : Nat) : Int))), (3, (.int .u8 ((b_14.toNat : Nat) : Int))), (4, (.int .u8 ((b_15.toNat : Nat) : Int)))] w_6.drew.drew) fun s_16 w_17 =>
  bnd (apd prog 25 25 (.slice y_5.1.a y_5.1.len y_5.1.cap) (.slice s_16.a s_16.len s_16.cap) w_17) fun s_18 w_19 =>
  rec b0 s_18 (IntKind.i64.wrap (i4 + 2)) w_19) else none) else none) else none) else none) else none) else none) else none) else (some ((out3, ()), w))
noncomputable def escrow_Words_l0 (K : Nat) (n : Nat) : Sl → Sl → Int → World → Option ((Sl × Unit) × World) := iter (fun _ _ _ _ => none) (escrow_Words_l0_b K) n
/-- coffer/escrow.Words -/
noncomputable def escrow_Words (K : Nat) (b0 : Sl) (w : World) : Option ((ByteArray × Unit) × World) :=
  bnd (escrow_Words_l0 K K b0 ⟨none, 0, 0⟩ 0 w) fun y_20 w_21 =>
  (b2sQ prog y_20.1.a y_20.1.len y_20.1.cap w_21).bind fun c_22 =>
  some ((c_22, ()), w_21)
theorem escrow_Words_s1_ok (K : Nat) : StmtNOk prog [(3, .sl), (14, .bool)] [(3, .sl)] [(3, 4), (15, 18)] (fun x w => escrow_Words_s1 K x.1 x.2.1 w) (cd (bodyOf f11) [1, 1, 0, 1, 0, 0, 1, 0, 0, 0, 1]) :=
    mk_stmtN (O := tabL []) (root := (bodyOf f11)) (π := [1, 1, 0, 1, 0, 0, 1, 0, 0, 0, 1]) (Li := [(3, .sl), (14, .bool)]) (Lo := [(3, .sl)]) (S := (fun x w => escrow_Words_s1 K x.1 x.2.1 w)) (escrow_Words_Eok K) (escrow_Words_Rok K) rfl (Orc.nil _ _ _) (by kernel_rfl) (fun _ _ => by kernel_rfl)
noncomputable def escrow_Words_s1_se (K : Nat) : SE := stmtN [(3, .sl), (14, .bool)] [(3, .sl)] [(3, 4), (15, 18)] (fun x w => escrow_Words_s1 K x.1 x.2.1 w)
theorem escrow_Words_s1_se_ok (K : Nat) (R : Rg) (h : subRB [(3, 4), (15, 18)] R = true) : (escrow_Words_s1_se K).Ok prog R (cd (bodyOf f11) [1, 1, 0, 1, 0, 0, 1, 0, 0, 0, 1]) := stmtN_ok (Li := [(3, .sl), (14, .bool)]) (Lo := [(3, .sl)]) (S := (fun x w => escrow_Words_s1 K x.1 x.2.1 w)) (escrow_Words_s1_ok K) (subR_of h)
theorem escrow_Words_l0_ok (K : Nat) (n : Nat) : StmtNOk prog [(0, .sl), (3, .sl), (4, .int .i64)] [(3, .sl)] [(3, 52)] ((fun n x w => escrow_Words_l0 K n x.1 x.2.1 x.2.2.1 w) n) (.block 0 (.loop (cd (bodyOf f11) [1, 1, 0, 1, 0, 0]))) :=
    mk_loopN (O := tabL [([1, 1, 0, 1, 0, 0, 1, 0, 0, 0, 1], escrow_Words_s1_se K)]) (root := (bodyOf f11)) (π := [1, 1, 0, 1, 0, 0]) (id := 0) (Li := [(0, .sl), (3, .sl), (4, .int .i64)]) (Lo := [(3, .sl)]) (S := (fun n x w => escrow_Words_l0 K n x.1 x.2.1 x.2.2.1 w)) (body := cd (bodyOf f11) [1, 1, 0, 1, 0, 0]) (escrow_Words_Eok K) (escrow_Words_Rok K) rfl (Orc.cons (by kernel_rfl) (escrow_Words_s1_se_ok K [(3, 52)] (by kernel_rfl)) (Orc.nil _ _ _)) (by kernel_rfl) (fun _ _ => by kernel_rfl) (fun _ _ _ => by kernel_rfl) n
noncomputable def escrow_Words_l0_se (K : Nat) : SE := stmtN [(0, .sl), (3, .sl), (4, .int .i64)] [(3, .sl)] [(3, 52)] (fun x w => escrow_Words_l0 K K x.1 x.2.1 x.2.2.1 w)
theorem escrow_Words_l0_se_ok (K : Nat) (R : Rg) (h : subRB [(3, 52)] R = true) : (escrow_Words_l0_se K).Ok prog R (.block 0 (.loop (cd (bodyOf f11) [1, 1, 0, 1, 0, 0]))) := stmtN_ok (Li := [(0, .sl), (3, .sl), (4, .int .i64)]) (Lo := [(3, .sl)]) (S := (fun x w => escrow_Words_l0 K K x.1 x.2.1 x.2.2.1 w)) (escrow_Words_l0_ok K K) (subR_of h)
theorem escrow_Words_facts : FunFacts prog 11 f11 (bodyOf f11) [(0, .sl)] [(0, 54)] := ⟨func11, by kernel_rfl, by kernel_rfl, by kernel_rfl, by kernel_rfl, by kernel_rfl⟩
theorem escrow_Words_calls (K : Nat) (x : TT [(0, .sl)]) (w : World) (y : TR [.str]) (w2 : World) (h : escrow_Words K x.1 w = some (y, w2)) : Calls prog 11 (encA [(0, .sl)] x).toArray w (fun e w3 => e = .returned (resV (encR [.str] y)) ∧ w3 = w2) :=
    mk_fun (O := tabL [([1, 1, 0, 1], escrow_Words_l0_se K), ([1, 1, 0, 1, 0, 0, 1, 0, 0, 0, 1], escrow_Words_s1_se K)]) (Lp := [(0, .sl)]) (Rt := [.str]) (S := (fun x w => escrow_Words K x.1 w)) (escrow_Words_Eok K) (escrow_Words_Rok K) rfl escrow_Words_facts (Orc.cons (by kernel_rfl) (escrow_Words_l0_se_ok K [(0, 54)] (by kernel_rfl)) (Orc.cons (by kernel_rfl) (escrow_Words_s1_se_ok K [(0, 54)] (by kernel_rfl)) (Orc.nil _ _ _))) (fun _ _ => by kernel_rfl) x w y w2 h
noncomputable def escrow_Words_ce (K : Nat) : CE := funE [(0, .sl)] [.str] (fun x w => escrow_Words K x.1 w)
theorem escrow_Words_ok (K : Nat) : (escrow_Words_ce K).Ok prog 11 := funE_ok (Rt := [.str]) (S := (fun x w => escrow_Words K x.1 w)) escrow_Words_facts fun x w y w2 h => escrow_Words_calls K x w y w2 h

noncomputable def ref11_Words_E (K : Nat) : List (Nat × CE) := []
theorem ref11_Words_Eok (K : Nat) : Env.Ok prog (tab (ref11_Words_E K)) := (Env.nil _)
noncomputable def ref11_Words_R (K : Nat) : List (Nat × RE) := []
theorem ref11_Words_Rok (K : Nat) : REnv.Ok prog (tab (ref11_Words_R K)) := (REnv.nil _)
noncomputable def ref11_Words_s1 (K : Nat) (s3 : ByteArray) (a47 : Bool) (w : World) : Option ((ByteArray × Unit) × World) :=
  if a47 = true then (if s3.size + str3.size ≤ 9223372036854775807 then (some (((s3 ++ str3), ()), w)) else none) else (some ((s3, ()), w))
noncomputable def ref11_Words_l0_b (K : Nat) (rec : Sl → ByteArray → Int → World → Option ((ByteArray × Unit) × World)) (b0 : Sl) (s3 : ByteArray) (i4 : Int) (w : World) : Option ((ByteArray × Unit) × World) :=
  if (decide ((IntKind.i64.wrap (i4 + 1)) < ((b0.len : Nat) : Int))) = true then ((b0.a).bind fun p_1 =>
  if (0 : Int) ≤ i4 ∧ i4 < ((b0.len : Nat) : Int) then ((b0.a).bind fun p_2 =>
  if (0 : Int) ≤ (IntKind.i64.wrap (i4 + 1)) ∧ (IntKind.i64.wrap (i4 + 1)) < ((b0.len : Nat) : Int) then ((ldI .u8 (p_1.add ((Int.toNat i4) * 1)) w.drew).bind fun v_3 =>
  (ldI .u8 (p_2.add ((Int.toNat (IntKind.i64.wrap (i4 + 1))) * 1)) w.drew).bind fun v_4 =>
  if (0 : Int) ≤ (IntKind.i64.wrap (Int.tdiv (IntKind.i64.wrap ((IntKind.i64.wrap ((IntKind.i64.wrap v_3) * 256)) + (IntKind.i64.wrap v_4))) 4096)) then ((str1[(Int.toNat (IntKind.i64.wrap (Int.tdiv (IntKind.i64.wrap ((IntKind.i64.wrap ((IntKind.i64.wrap v_3) * 256)) + (IntKind.i64.wrap v_4))) 4096)))]?).bind fun b_5 =>
  if (0 : Int) ≤ (Int.tmod (IntKind.i64.wrap (Int.tdiv (IntKind.i64.wrap ((IntKind.i64.wrap ((IntKind.i64.wrap v_3) * 256)) + (IntKind.i64.wrap v_4))) 1024)) 4) then ((str2[(Int.toNat (Int.tmod (IntKind.i64.wrap (Int.tdiv (IntKind.i64.wrap ((IntKind.i64.wrap ((IntKind.i64.wrap v_3) * 256)) + (IntKind.i64.wrap v_4))) 1024)) 4))]?).bind fun b_6 =>
  if (0 : Int) ≤ (Int.tmod (IntKind.i64.wrap (Int.tdiv (IntKind.i64.wrap ((IntKind.i64.wrap ((IntKind.i64.wrap v_3) * 256)) + (IntKind.i64.wrap v_4))) 64)) 16) then ((str1[(Int.toNat (Int.tmod (IntKind.i64.wrap (Int.tdiv (IntKind.i64.wrap ((IntKind.i64.wrap ((IntKind.i64.wrap v_3) * 256)) + (IntKind.i64.wrap v_4))) 64)) 16))]?).bind fun b_7 =>
  if (0 : Int) ≤ (Int.tmod (IntKind.i64.wrap (Int.tdiv (IntKind.i64.wrap ((IntKind.i64.wrap ((IntKind.i64.wrap v_3) * 256)) + (IntKind.i64.wrap v_4))) 16)) 4) then ((str2[(Int.toNat (Int.tmod (IntKind.i64.wrap (Int.tdiv (IntKind.i64.wrap ((IntKind.i64.wrap ((IntKind.i64.wrap v_3) * 256)) + (IntKind.i64.wrap v_4))) 16)) 4))]?).bind fun b_8 =>
  if (0 : Int) ≤ (Int.tmod (IntKind.i64.wrap ((IntKind.i64.wrap ((IntKind.i64.wrap v_3) * 256)) + (IntKind.i64.wrap v_4))) 16) then ((str1[(Int.toNat (Int.tmod (IntKind.i64.wrap ((IntKind.i64.wrap ((IntKind.i64.wrap v_3) * 256)) + (IntKind.i64.wrap v_4))) 16))]?).bind fun b_9 =>
  bnd (bldS prog 25 5 #[(0, (.int .u8 ((b_5.toNat : Nat) : Int))), (1, (.int .u8 ((b_6.toNat : Nat) : Int))), (2, (.int .u8 ((b_7.toNat : Nat) : Int))), (3, (.int .u8 ((b_8.toNat : Nat) : Int))), (4, (.int .u8 ((b_9.toNat : Nat) : Int)))] w.drew.drew) fun s_10 w_11 =>
  bnd (ref11_Words_s1 K s3 (decide (i4 > 0)) w_11) fun y_12 w_13 =>
  (b2sQ prog s_10.a s_10.len s_10.cap w_13).bind fun c_14 =>
  if y_12.1.size + c_14.size ≤ 9223372036854775807 then (rec b0 (y_12.1 ++ c_14) (IntKind.i64.wrap (i4 + 2)) w_13) else none) else none) else none) else none) else none) else none) else none) else none) else (some ((s3, ()), w))
noncomputable def ref11_Words_l0 (K : Nat) (n : Nat) : Sl → ByteArray → Int → World → Option ((ByteArray × Unit) × World) := iter (fun _ _ _ _ => none) (ref11_Words_l0_b K) n
/-- coffer/cofferref11.Words -/
noncomputable def ref11_Words (K : Nat) (b0 : Sl) (w : World) : Option ((ByteArray × Unit) × World) :=
  bnd (ref11_Words_l0 K K b0 str0 0 w) fun y_15 w_16 =>
  some ((y_15.1, ()), w_16)
theorem ref11_Words_s1_ok (K : Nat) : StmtNOk prog [(3, .str), (47, .bool)] [(3, .str)] [(3, 4), (48, 50)] (fun x w => ref11_Words_s1 K x.1 x.2.1 w) (cd (bodyOf f12) [1, 1, 0, 1, 0, 0, 1, 0, 0, 1, 1, 0, 1]) :=
    mk_stmtN (O := tabL []) (root := (bodyOf f12)) (π := [1, 1, 0, 1, 0, 0, 1, 0, 0, 1, 1, 0, 1]) (Li := [(3, .str), (47, .bool)]) (Lo := [(3, .str)]) (S := (fun x w => ref11_Words_s1 K x.1 x.2.1 w)) (ref11_Words_Eok K) (ref11_Words_Rok K) rfl (Orc.nil _ _ _) (by kernel_rfl) (fun _ _ => by kernel_rfl)
noncomputable def ref11_Words_s1_se (K : Nat) : SE := stmtN [(3, .str), (47, .bool)] [(3, .str)] [(3, 4), (48, 50)] (fun x w => ref11_Words_s1 K x.1 x.2.1 w)
theorem ref11_Words_s1_se_ok (K : Nat) (R : Rg) (h : subRB [(3, 4), (48, 50)] R = true) : (ref11_Words_s1_se K).Ok prog R (cd (bodyOf f12) [1, 1, 0, 1, 0, 0, 1, 0, 0, 1, 1, 0, 1]) := stmtN_ok (Li := [(3, .str), (47, .bool)]) (Lo := [(3, .str)]) (S := (fun x w => ref11_Words_s1 K x.1 x.2.1 w)) (ref11_Words_s1_ok K) (subR_of h)
theorem ref11_Words_l0_ok (K : Nat) (n : Nat) : StmtNOk prog [(0, .sl), (3, .str), (4, .int .i64)] [(3, .str)] [(3, 54)] ((fun n x w => ref11_Words_l0 K n x.1 x.2.1 x.2.2.1 w) n) (.block 0 (.loop (cd (bodyOf f12) [1, 1, 0, 1, 0, 0]))) :=
    mk_loopN (O := tabL [([1, 1, 0, 1, 0, 0, 1, 0, 0, 1, 1, 0, 1], ref11_Words_s1_se K)]) (root := (bodyOf f12)) (π := [1, 1, 0, 1, 0, 0]) (id := 0) (Li := [(0, .sl), (3, .str), (4, .int .i64)]) (Lo := [(3, .str)]) (S := (fun n x w => ref11_Words_l0 K n x.1 x.2.1 x.2.2.1 w)) (body := cd (bodyOf f12) [1, 1, 0, 1, 0, 0]) (ref11_Words_Eok K) (ref11_Words_Rok K) rfl (Orc.cons (by kernel_rfl) (ref11_Words_s1_se_ok K [(3, 54)] (by kernel_rfl)) (Orc.nil _ _ _)) (by kernel_rfl) (fun _ _ => by kernel_rfl) (fun _ _ _ => by kernel_rfl) n
noncomputable def ref11_Words_l0_se (K : Nat) : SE := stmtN [(0, .sl), (3, .str), (4, .int .i64)] [(3, .str)] [(3, 54)] (fun x w => ref11_Words_l0 K K x.1 x.2.1 x.2.2.1 w)
theorem ref11_Words_l0_se_ok (K : Nat) (R : Rg) (h : subRB [(3, 54)] R = true) : (ref11_Words_l0_se K).Ok prog R (.block 0 (.loop (cd (bodyOf f12) [1, 1, 0, 1, 0, 0]))) := stmtN_ok (Li := [(0, .sl), (3, .str), (4, .int .i64)]) (Lo := [(3, .str)]) (S := (fun x w => ref11_Words_l0 K K x.1 x.2.1 x.2.2.1 w)) (ref11_Words_l0_ok K K) (subR_of h)
theorem ref11_Words_facts : FunFacts prog 12 f12 (bodyOf f12) [(0, .sl)] [(0, 55)] := ⟨func12, by kernel_rfl, by kernel_rfl, by kernel_rfl, by kernel_rfl, by kernel_rfl⟩
theorem ref11_Words_calls (K : Nat) (x : TT [(0, .sl)]) (w : World) (y : TR [.str]) (w2 : World) (h : ref11_Words K x.1 w = some (y, w2)) : Calls prog 12 (encA [(0, .sl)] x).toArray w (fun e w3 => e = .returned (resV (encR [.str] y)) ∧ w3 = w2) :=
    mk_fun (O := tabL [([1, 1, 0, 1], ref11_Words_l0_se K), ([1, 1, 0, 1, 0, 0, 1, 0, 0, 1, 1, 0, 1], ref11_Words_s1_se K)]) (Lp := [(0, .sl)]) (Rt := [.str]) (S := (fun x w => ref11_Words K x.1 w)) (ref11_Words_Eok K) (ref11_Words_Rok K) rfl ref11_Words_facts (Orc.cons (by kernel_rfl) (ref11_Words_l0_se_ok K [(0, 55)] (by kernel_rfl)) (Orc.cons (by kernel_rfl) (ref11_Words_s1_se_ok K [(0, 55)] (by kernel_rfl)) (Orc.nil _ _ _))) (fun _ _ => by kernel_rfl) x w y w2 h
noncomputable def ref11_Words_ce (K : Nat) : CE := funE [(0, .sl)] [.str] (fun x w => ref11_Words K x.1 w)
theorem ref11_Words_ok (K : Nat) : (ref11_Words_ce K).Ok prog 12 := funE_ok (Rt := [.str]) (S := (fun x w => ref11_Words K x.1 w)) ref11_Words_facts fun x w y w2 h => ref11_Words_calls K x w y w2 h

noncomputable def book_SameBytes_E (K : Nat) : List (Nat × CE) := []
theorem book_SameBytes_Eok (K : Nat) : Env.Ok prog (tab (book_SameBytes_E K)) := (Env.nil _)
noncomputable def book_SameBytes_R (K : Nat) : List (Nat × RE) := []
theorem book_SameBytes_Rok (K : Nat) : REnv.Ok prog (tab (book_SameBytes_R K)) := (REnv.nil _)
noncomputable def book_SameBytes_l0_b (K : Nat) (rec : Sl → Sl → Int → World → Option ((Out (Unit) (Bool × Unit)) × World)) (a0 : Sl) (b1 : Sl) (i5 : Int) (w : World) : Option ((Out (Unit) (Bool × Unit)) × World) :=
  if (decide (i5 < ((a0.len : Nat) : Int))) = true then ((a0.a).bind fun p_1 =>
  if (0 : Int) ≤ i5 ∧ i5 < ((a0.len : Nat) : Int) then ((b1.a).bind fun p_2 =>
  if (0 : Int) ≤ i5 ∧ i5 < ((b1.len : Nat) : Int) then ((ldI .u8 (p_1.add ((Int.toNat i5) * 1)) w.drew).bind fun v_3 =>
  (ldI .u8 (p_2.add ((Int.toNat i5) * 1)) w.drew).bind fun v_4 =>
  if (v_3 != v_4) = true then (some (.ret (false, ()), w.drew)) else (rec a0 b1 (IntKind.i64.wrap (i5 + 1)) w.drew)) else none) else none) else (some (.norm (), w))
noncomputable def book_SameBytes_l0 (K : Nat) (n : Nat) : Sl → Sl → Int → World → Option ((Out (Unit) (Bool × Unit)) × World) := iter (fun _ _ _ _ => none) (book_SameBytes_l0_b K) n
/-- coffer/cofferbook.SameBytes -/
noncomputable def book_SameBytes (K : Nat) (a0 : Sl) (b1 : Sl) (w : World) : Option ((Bool × Unit) × World) :=
  if (((a0.len : Nat) : Int) != ((b1.len : Nat) : Int)) = true then (some ((false, ()), w)) else (bnd (book_SameBytes_l0 K K a0 b1 0 w) fun y_5 w_6 =>
  (match y_5 with
  | .norm z_7n => (some ((true, ()), w_6))
  | .ret z_7r => (some ((z_7r.1, ()), w_6))))
theorem book_SameBytes_l0_ok (K : Nat) (n : Nat) : StmtOk prog [(0, .sl), (1, .sl), (5, .int .i64)] [] [(4, .bool)] [(4, 6), (11, 26)] ((fun n x w => book_SameBytes_l0 K n x.1 x.2.1 x.2.2.1 w) n) (.block 0 (.loop (cd (bodyOf f19) [1, 1, 0, 1, 0, 0]))) :=
    mk_loop (O := tabL []) (root := (bodyOf f19)) (π := [1, 1, 0, 1, 0, 0]) (id := 0) (Li := [(0, .sl), (1, .sl), (5, .int .i64)]) (Lo := []) (Lr := [(4, .bool)]) (S := (fun n x w => book_SameBytes_l0 K n x.1 x.2.1 x.2.2.1 w)) (body := cd (bodyOf f19) [1, 1, 0, 1, 0, 0]) (book_SameBytes_Eok K) (book_SameBytes_Rok K) rfl (Orc.nil _ _ _) (by kernel_rfl) (fun _ _ => by kernel_rfl) (fun _ _ _ => by kernel_rfl) n
noncomputable def book_SameBytes_l0_se (K : Nat) : SE := stmt [(0, .sl), (1, .sl), (5, .int .i64)] [] [(4, .bool)] [(4, 6), (11, 26)] (fun x w => book_SameBytes_l0 K K x.1 x.2.1 x.2.2.1 w)
theorem book_SameBytes_l0_se_ok (K : Nat) (R : Rg) (h : subRB [(4, 6), (11, 26)] R = true) : (book_SameBytes_l0_se K).Ok prog R (.block 0 (.loop (cd (bodyOf f19) [1, 1, 0, 1, 0, 0]))) := stmt_ok (Li := [(0, .sl), (1, .sl), (5, .int .i64)]) (Lo := []) (Lr := [(4, .bool)]) (S := (fun x w => book_SameBytes_l0 K K x.1 x.2.1 x.2.2.1 w)) (book_SameBytes_l0_ok K K) (subR_of h)
theorem book_SameBytes_facts : FunFacts prog 19 f19 (bodyOf f19) [(0, .sl), (1, .sl)] [(0, 26)] := ⟨func19, by kernel_rfl, by kernel_rfl, by kernel_rfl, by kernel_rfl, by kernel_rfl⟩
theorem book_SameBytes_calls (K : Nat) (x : TT [(0, .sl), (1, .sl)]) (w : World) (y : TR [.bool]) (w2 : World) (h : book_SameBytes K x.1 x.2.1 w = some (y, w2)) : Calls prog 19 (encA [(0, .sl), (1, .sl)] x).toArray w (fun e w3 => e = .returned (resV (encR [.bool] y)) ∧ w3 = w2) :=
    mk_fun (O := tabL [([1, 1, 0, 1], book_SameBytes_l0_se K)]) (Lp := [(0, .sl), (1, .sl)]) (Rt := [.bool]) (S := (fun x w => book_SameBytes K x.1 x.2.1 w)) (book_SameBytes_Eok K) (book_SameBytes_Rok K) rfl book_SameBytes_facts (Orc.cons (by kernel_rfl) (book_SameBytes_l0_se_ok K [(0, 26)] (by kernel_rfl)) (Orc.nil _ _ _)) (fun _ _ => by kernel_rfl) x w y w2 h
noncomputable def book_SameBytes_ce (K : Nat) : CE := funE [(0, .sl), (1, .sl)] [.bool] (fun x w => book_SameBytes K x.1 x.2.1 w)
theorem book_SameBytes_ok (K : Nat) : (book_SameBytes_ce K).Ok prog 19 := funE_ok (Rt := [.bool]) (S := (fun x w => book_SameBytes K x.1 x.2.1 w)) book_SameBytes_facts fun x w y w2 h => book_SameBytes_calls K x w y w2 h

noncomputable def book_WholeBytes_E (K : Nat) : List (Nat × CE) := [(19, book_SameBytes_ce K)]
theorem book_WholeBytes_Eok (K : Nat) : Env.Ok prog (tab (book_WholeBytes_E K)) := (Env.cons (book_SameBytes_ok K) (Env.nil _))
noncomputable def book_WholeBytes_R (K : Nat) : List (Nat × RE) := []
theorem book_WholeBytes_Rok (K : Nat) : REnv.Ok prog (tab (book_WholeBytes_R K)) := (REnv.nil _)
noncomputable def book_WholeBytes_l0_b (K : Nat) (rec : Int → Sl → Int → World → Option ((Out (Unit) (Bool × Unit)) × World)) (n5 : Int) (all6 : Sl) (i7 : Int) (w : World) : Option ((Out (Unit) (Bool × Unit)) × World) :=
  if (decide (i7 < 70)) = true then ((all6.a).bind fun p_3 =>
  if (0 : Int) ≤ (IntKind.i64.wrap (n5 + i7)) ∧ (IntKind.i64.wrap (n5 + i7)) < ((all6.len : Nat) : Int) then ((ldI .u8 (p_3.add ((Int.toNat (IntKind.i64.wrap (n5 + i7))) * 1)) w).bind fun v_4 =>
  if (v_4 != (IntKind.u8.wrap (IntKind.i64.wrap (181 + i7)))) = true then (some (.ret (false, ()), w)) else (rec n5 all6 (IntKind.i64.wrap (i7 + 1)) w)) else none) else (some (.norm (), w))
noncomputable def book_WholeBytes_l0 (K : Nat) (n : Nat) : Int → Sl → Int → World → Option ((Out (Unit) (Bool × Unit)) × World) := iter (fun _ _ _ _ => none) (book_WholeBytes_l0_b K) n
/-- coffer/cofferbook.WholeBytes -/
noncomputable def book_WholeBytes (K : Nat) (c0 : Sl) (l1 : Sl) (w : World) : Option ((Bool × Unit) × World) :=
  bnd (book_SameBytes K c0 l1 w) fun r_1 w_2 =>
  if (!r_1.1) = true then (some ((false, ()), w_2)) else (if (0 : Int) ≤ (IntKind.i64.wrap (((c0.len : Nat) : Int) + 70)) ∧ (IntKind.i64.wrap (((c0.len : Nat) : Int) + 70)) ≤ ((c0.cap : Nat) : Int) then (bnd (book_WholeBytes_l0 K K ((c0.len : Nat) : Int) ⟨(sla c0.a 0 c0.cap 1), ((Int.toNat ((IntKind.i64.wrap (((c0.len : Nat) : Int) + 70)))) - 0), (c0.cap - 0)⟩ 0 w_2) fun y_5 w_6 =>
  (match y_5 with
  | .norm z_7n => (some ((true, ()), w_6))
  | .ret z_7r => (some ((z_7r.1, ()), w_6)))) else none)
theorem book_WholeBytes_l0_ok (K : Nat) (n : Nat) : StmtOk prog [(5, .int .i64), (6, .sl), (7, .int .i64)] [] [(4, .bool)] [(4, 5), (7, 8), (18, 32)] ((fun n x w => book_WholeBytes_l0 K n x.1 x.2.1 x.2.2.1 w) n) (.block 0 (.loop (cd (bodyOf f13) [1, 1, 1, 1, 0, 1, 0, 0]))) :=
    mk_loop (O := tabL []) (root := (bodyOf f13)) (π := [1, 1, 1, 1, 0, 1, 0, 0]) (id := 0) (Li := [(5, .int .i64), (6, .sl), (7, .int .i64)]) (Lo := []) (Lr := [(4, .bool)]) (S := (fun n x w => book_WholeBytes_l0 K n x.1 x.2.1 x.2.2.1 w)) (body := cd (bodyOf f13) [1, 1, 1, 1, 0, 1, 0, 0]) (book_WholeBytes_Eok K) (book_WholeBytes_Rok K) rfl (Orc.nil _ _ _) (by kernel_rfl) (fun _ _ => by kernel_rfl) (fun _ _ _ => by kernel_rfl) n
noncomputable def book_WholeBytes_l0_se (K : Nat) : SE := stmt [(5, .int .i64), (6, .sl), (7, .int .i64)] [] [(4, .bool)] [(4, 5), (7, 8), (18, 32)] (fun x w => book_WholeBytes_l0 K K x.1 x.2.1 x.2.2.1 w)
theorem book_WholeBytes_l0_se_ok (K : Nat) (R : Rg) (h : subRB [(4, 5), (7, 8), (18, 32)] R = true) : (book_WholeBytes_l0_se K).Ok prog R (.block 0 (.loop (cd (bodyOf f13) [1, 1, 1, 1, 0, 1, 0, 0]))) := stmt_ok (Li := [(5, .int .i64), (6, .sl), (7, .int .i64)]) (Lo := []) (Lr := [(4, .bool)]) (S := (fun x w => book_WholeBytes_l0 K K x.1 x.2.1 x.2.2.1 w)) (book_WholeBytes_l0_ok K K) (subR_of h)
theorem book_WholeBytes_facts : FunFacts prog 13 f13 (bodyOf f13) [(0, .sl), (1, .sl)] [(0, 32)] := ⟨func13, by kernel_rfl, by kernel_rfl, by kernel_rfl, by kernel_rfl, by kernel_rfl⟩
theorem book_WholeBytes_calls (K : Nat) (x : TT [(0, .sl), (1, .sl)]) (w : World) (y : TR [.bool]) (w2 : World) (h : book_WholeBytes K x.1 x.2.1 w = some (y, w2)) : Calls prog 13 (encA [(0, .sl), (1, .sl)] x).toArray w (fun e w3 => e = .returned (resV (encR [.bool] y)) ∧ w3 = w2) :=
    mk_fun (O := tabL [([1, 1, 1, 1, 0, 1], book_WholeBytes_l0_se K)]) (Lp := [(0, .sl), (1, .sl)]) (Rt := [.bool]) (S := (fun x w => book_WholeBytes K x.1 x.2.1 w)) (book_WholeBytes_Eok K) (book_WholeBytes_Rok K) rfl book_WholeBytes_facts (Orc.cons (by kernel_rfl) (book_WholeBytes_l0_se_ok K [(0, 32)] (by kernel_rfl)) (Orc.nil _ _ _)) (fun _ _ => by kernel_rfl) x w y w2 h
noncomputable def book_WholeBytes_ce (K : Nat) : CE := funE [(0, .sl), (1, .sl)] [.bool] (fun x w => book_WholeBytes K x.1 x.2.1 w)
theorem book_WholeBytes_ok (K : Nat) : (book_WholeBytes_ce K).Ok prog 13 := funE_ok (Rt := [.bool]) (S := (fun x w => book_WholeBytes K x.1 x.2.1 w)) book_WholeBytes_facts fun x w y w2 h => book_WholeBytes_calls K x w y w2 h

noncomputable def law11_EscrowWords_E (K : Nat) : List (Nat × CE) := [(10, book_Bytes_ce K), (11, escrow_Words_ce K), (12, ref11_Words_ce K), (13, book_WholeBytes_ce K)]
theorem law11_EscrowWords_Eok (K : Nat) : Env.Ok prog (tab (law11_EscrowWords_E K)) := (Env.cons (book_Bytes_ok K) (Env.cons (escrow_Words_ok K) (Env.cons (ref11_Words_ok K) (Env.cons (book_WholeBytes_ok K) (Env.nil _)))))
noncomputable def law11_EscrowWords_R (K : Nat) : List (Nat × RE) := [(9, law11_cut_re)]
theorem law11_EscrowWords_Rok (K : Nat) : REnv.Ok prog (tab (law11_EscrowWords_R K)) := (REnv.cons (law11_cut_ok) (REnv.nil _))
/-- coffer/cofferlaw11.EscrowWords -/
noncomputable def law11_EscrowWords (K : Nat) (b0 : Sl) (w : World) : Option ((Bool × Unit) × World) :=
  (law11_cut b0 3000).bind fun r_1 =>
  bnd (book_Bytes K r_1.1 w) fun r_2 w_3 =>
  bnd (escrow_Words K r_2.1 w_3) fun r_4 w_5 =>
  bnd (ref11_Words K r_1.1 w_5) fun r_6 w_7 =>
  if (r_4.1.toList == r_6.1.toList) = true then (bnd (book_WholeBytes K r_2.1 r_1.1 w_7) fun r_8 w_9 =>
  some ((r_8.1, ()), w_9)) else (some ((false, ()), w_7))
theorem law11_EscrowWords_facts : FunFacts prog 5 f5 (bodyOf f5) [(0, .sl)] [(0, 18)] := ⟨func5, by kernel_rfl, by kernel_rfl, by kernel_rfl, by kernel_rfl, by kernel_rfl⟩
theorem law11_EscrowWords_calls (K : Nat) (x : TT [(0, .sl)]) (w : World) (y : TR [.bool]) (w2 : World) (h : law11_EscrowWords K x.1 w = some (y, w2)) : Calls prog 5 (encA [(0, .sl)] x).toArray w (fun e w3 => e = .returned (resV (encR [.bool] y)) ∧ w3 = w2) :=
    mk_fun (O := tabL []) (Lp := [(0, .sl)]) (Rt := [.bool]) (S := (fun x w => law11_EscrowWords K x.1 w)) (law11_EscrowWords_Eok K) (law11_EscrowWords_Rok K) rfl law11_EscrowWords_facts (Orc.nil _ _ _) (fun _ _ => by kernel_rfl) x w y w2 h
noncomputable def law11_EscrowWords_ce (K : Nat) : CE := funE [(0, .sl)] [.bool] (fun x w => law11_EscrowWords K x.1 w)
theorem law11_EscrowWords_ok (K : Nat) : (law11_EscrowWords_ce K).Ok prog 5 := funE_ok (Rt := [.bool]) (S := (fun x w => law11_EscrowWords K x.1 w)) law11_EscrowWords_facts fun x w y w2 h => law11_EscrowWords_calls K x w y w2 h

noncomputable def ref11_gap_R : List (Nat × RE) := []
theorem ref11_gap_Rok : REnv.Ok prog (tab (ref11_gap_R)) := (REnv.nil _)
/-- coffer/cofferref11.gap -/
noncomputable def ref11_gap (c0 : Int) : Option (Bool × Unit) :=
  if (c0 == 32) = true then (some (true, ())) else (if (c0 == 9) = true then (some (true, ())) else (if (c0 == 10) = true then (some (true, ())) else (if (c0 == 13) = true then (some (true, ())) else (some ((c0 == 45), ())))))
theorem ref11_gap_facts : FunFacts prog 26 f26 (bodyOf f26) [(0, .int .u8)] [(0, 21)] := ⟨func26, by kernel_rfl, by kernel_rfl, by kernel_rfl, by kernel_rfl, by kernel_rfl⟩
theorem ref11_gap_calls (x : TT [(0, .int .u8)]) (w : World) (y : TR [.bool]) (h : ref11_gap x.1 = some y) : Calls prog 26 (encA [(0, .int .u8)] x).toArray w (fun e w3 => e = .returned (resV (encR [.bool] y)) ∧ w3 = w) :=
    mk_funQ (O := tabL []) (Lp := [(0, .int .u8)]) (Rt := [.bool]) (S := (fun x w => ref11_gap x.1)) (ref11_gap_Rok) ref11_gap_facts (OrcQ.nil _ _ _) (fun _ _ => by kernel_rfl) x w y h
noncomputable def ref11_gap_re : RE := funR [(0, .int .u8)] [.bool] (fun x w => ref11_gap x.1)
theorem ref11_gap_ok : (ref11_gap_re).Ok prog 26 := funR_ok (Rt := [.bool]) (S := (fun x w => ref11_gap x.1)) ref11_gap_facts fun x w y h => ref11_gap_calls x w y h

noncomputable def ref11_place_R (K : Nat) : List (Nat × RE) := []
theorem ref11_place_Rok (K : Nat) : REnv.Ok prog (tab (ref11_place_R K)) := (REnv.nil _)
noncomputable def ref11_place_l0_b (K : Nat) (rec : ByteArray → Int → Int → Option (Out (Unit) (Int × Unit))) (s0 : ByteArray) (c1 : Int) (i5 : Int) : Option (Out (Unit) (Int × Unit)) :=
  if (decide (i5 < ((s0.size : Nat) : Int))) = true then (if (0 : Int) ≤ i5 then ((s0[(Int.toNat i5)]?).bind fun b_1 =>
  if (((b_1.toNat : Nat) : Int) == c1) = true then (some (.ret (i5, ()))) else (rec s0 c1 (IntKind.i64.wrap (i5 + 1)))) else none) else (some (.norm ()))
noncomputable def ref11_place_l0 (K : Nat) (n : Nat) : ByteArray → Int → Int → Option (Out (Unit) (Int × Unit)) := iter (fun _ _ _ => none) (ref11_place_l0_b K) n
/-- coffer/cofferref11.place -/
noncomputable def ref11_place (K : Nat) (s0 : ByteArray) (c1 : Int) : Option (Int × Unit) :=
  (ref11_place_l0 K K s0 c1 0).bind fun y_2 =>
  (match y_2 with
  | .norm z_3n => (some ((-1), ()))
  | .ret z_3r => (some (z_3r.1, ())))
theorem ref11_place_l0_ok (K : Nat) (n : Nat) : StmtQOk prog [(0, .str), (1, .int .u8), (5, .int .i64)] [] [(4, .int .i64)] [(4, 18)] ((fun n x w => ref11_place_l0 K n x.1 x.2.1 x.2.2.1) n) (.block 0 (.loop (cd (bodyOf f27) [1, 0, 1, 0, 0]))) :=
    mk_loopQ (O := tabL []) (root := (bodyOf f27)) (π := [1, 0, 1, 0, 0]) (id := 0) (Li := [(0, .str), (1, .int .u8), (5, .int .i64)]) (Lo := []) (Lr := [(4, .int .i64)]) (S := (fun n x w => ref11_place_l0 K n x.1 x.2.1 x.2.2.1)) (body := cd (bodyOf f27) [1, 0, 1, 0, 0]) (ref11_place_Rok K) (OrcQ.nil _ _ _) (by kernel_rfl) (fun _ _ => by kernel_rfl) (fun _ _ _ => by kernel_rfl) n
noncomputable def ref11_place_l0_se (K : Nat) : SQ := stmtQ [(0, .str), (1, .int .u8), (5, .int .i64)] [] [(4, .int .i64)] [(4, 18)] (fun x w => ref11_place_l0 K K x.1 x.2.1 x.2.2.1)
theorem ref11_place_l0_se_ok (K : Nat) (R : Rg) (h : subRB [(4, 18)] R = true) : (ref11_place_l0_se K).Ok prog R (.block 0 (.loop (cd (bodyOf f27) [1, 0, 1, 0, 0]))) := stmtQ_ok (Li := [(0, .str), (1, .int .u8), (5, .int .i64)]) (Lo := []) (Lr := [(4, .int .i64)]) (S := (fun x w => ref11_place_l0 K K x.1 x.2.1 x.2.2.1)) (ref11_place_l0_ok K K) (subR_of h)
theorem ref11_place_facts : FunFacts prog 27 f27 (bodyOf f27) [(0, .str), (1, .int .u8)] [(0, 18)] := ⟨func27, by kernel_rfl, by kernel_rfl, by kernel_rfl, by kernel_rfl, by kernel_rfl⟩
theorem ref11_place_calls (K : Nat) (x : TT [(0, .str), (1, .int .u8)]) (w : World) (y : TR [.int .i64]) (h : ref11_place K x.1 x.2.1 = some y) : Calls prog 27 (encA [(0, .str), (1, .int .u8)] x).toArray w (fun e w3 => e = .returned (resV (encR [.int .i64] y)) ∧ w3 = w) :=
    mk_funQ (O := tabL [([1, 0, 1], ref11_place_l0_se K)]) (Lp := [(0, .str), (1, .int .u8)]) (Rt := [.int .i64]) (S := (fun x w => ref11_place K x.1 x.2.1)) (ref11_place_Rok K) ref11_place_facts (OrcQ.cons (by kernel_rfl) (ref11_place_l0_se_ok K [(0, 18)] (by kernel_rfl)) (OrcQ.nil _ _ _)) (fun _ _ => by kernel_rfl) x w y h
noncomputable def ref11_place_re (K : Nat) : RE := funR [(0, .str), (1, .int .u8)] [.int .i64] (fun x w => ref11_place K x.1 x.2.1)
theorem ref11_place_ok (K : Nat) : (ref11_place_re K).Ok prog 27 := funR_ok (Rt := [.int .i64]) (S := (fun x w => ref11_place K x.1 x.2.1)) ref11_place_facts fun x w y h => ref11_place_calls K x w y h

end Go.Sh

/- What functions of the program do, as Lean functions; that the machine does just that. Printed by shal.py, a program of this claim's writer. -/
set_option maxRecDepth 100000
set_option linter.unusedVariables false
namespace Go.Sh
open Go.Fw Go.Proofs.Try

noncomputable def ref11_Read_E (K : Nat) : List (Nat × CE) := []
theorem ref11_Read_Eok (K : Nat) : Env.Ok prog (tab (ref11_Read_E K)) := (Env.nil _)
noncomputable def ref11_Read_R (K : Nat) : List (Nat × RE) := [(26, ref11_gap_re), (27, ref11_place_re K)]
theorem ref11_Read_Rok (K : Nat) : REnv.Ok prog (tab (ref11_Read_R K)) := (REnv.cons (ref11_gap_ok) (REnv.cons (ref11_place_ok K) (REnv.nil _)))
noncomputable def ref11_Read_l1_b (K : Nat) (rec : ByteArray → Sl → Int → Int → World → Option ((Int × Unit) × World)) (s0 : ByteArray) (out4 : Sl) (i5 : Int) (from6 : Int) (w : World) : Option ((Int × Unit) × World) :=
  if (decide (i5 < ((s0.size : Nat) : Int))) = true then (if (0 : Int) ≤ i5 then ((s0[(Int.toNat i5)]?).bind fun b_3 =>
  (ref11_gap ((b_3.toNat : Nat) : Int)).bind fun r_4 =>
  if (!r_4.1) = true then (rec s0 out4 (IntKind.i64.wrap (i5 + 1)) from6 w) else (some ((i5, ()), w))) else none) else (some ((i5, ()), w))
noncomputable def ref11_Read_l1 (K : Nat) (n : Nat) : ByteArray → Sl → Int → Int → World → Option ((Int × Unit) × World) := iter (fun _ _ _ _ _ => none) (ref11_Read_l1_b K) n
noncomputable def ref11_Read_s3 (K : Nat) (c10 : Int) (w : World) : Option ((Bool × Unit) × World) :=
  if (decide (c10 ≥ 65)) = true then (some (((decide (c10 ≤ 90)), ()), w)) else (some ((false, ()), w))
noncomputable def ref11_Read_s4 (K : Nat) (c10 : Int) (a55 : Bool) (w : World) : Option ((Int × Unit) × World) :=
  if a55 = true then (some (((IntKind.u8.wrap (c10 + 32)), ()), w)) else (some ((c10, ()), w))
noncomputable def ref11_Read_s5 (K : Nat) (well8 : Bool) (p11 : Int) (w : World) : Option ((Bool × Unit) × World) :=
  if well8 = true then (some (((decide (p11 ≥ 0)), ()), w)) else (some ((false, ()), w))
noncomputable def ref11_Read_s6 (K : Nat) (well8 : Bool) (p12 : Int) (w : World) : Option ((Bool × Unit) × World) :=
  if well8 = true then (some (((decide (p12 ≥ 0)), ()), w)) else (some ((false, ()), w))
noncomputable def ref11_Read_l2_b (K : Nat) (rec : ByteArray → Sl → Int → Int → Int → Bool → Int → World → Option ((Int × Bool × Unit) × World)) (s0 : ByteArray) (out4 : Sl) (i5 : Int) (from6 : Int) (v7 : Int) (well8 : Bool) (k9 : Int) (w : World) : Option ((Int × Bool × Unit) × World) :=
  if (decide (k9 < 5)) = true then (if (0 : Int) ≤ (IntKind.i64.wrap (from6 + k9)) then ((s0[(Int.toNat (IntKind.i64.wrap (from6 + k9)))]?).bind fun b_7 =>
  bnd (ref11_Read_s3 K ((b_7.toNat : Nat) : Int) w) fun y_8 w_9 =>
  bnd (ref11_Read_s4 K ((b_7.toNat : Nat) : Int) y_8.1 w_9) fun y_10 w_11 =>
  if ((Int.tmod k9 2) == 0) = true then ((ref11_place K str1 y_10.1).bind fun r_12 =>
  bnd (ref11_Read_s5 K well8 r_12.1 w_11) fun y_13 w_14 =>
  rec s0 out4 i5 from6 (IntKind.i64.wrap ((IntKind.i64.wrap (v7 * 16)) + r_12.1)) y_13.1 (IntKind.i64.wrap (k9 + 1)) w_14) else ((ref11_place K str2 y_10.1).bind fun r_15 =>
  bnd (ref11_Read_s6 K well8 r_15.1 w_11) fun y_16 w_17 =>
  rec s0 out4 i5 from6 (IntKind.i64.wrap ((IntKind.i64.wrap (v7 * 4)) + r_15.1)) y_16.1 (IntKind.i64.wrap (k9 + 1)) w_17)) else none) else (some ((v7, well8, ()), w))
noncomputable def ref11_Read_l2 (K : Nat) (n : Nat) : ByteArray → Sl → Int → Int → Int → Bool → Int → World → Option ((Int × Bool × Unit) × World) := iter (fun _ _ _ _ _ _ _ _ => none) (ref11_Read_l2_b K) n
noncomputable def ref11_Read_s7 (K : Nat) (v7 : Int) (a84 : Bool) (w : World) : Option ((Int × Unit) × World) :=
  if a84 = true then (some ((0, ()), w)) else (some ((v7, ()), w))
noncomputable def ref11_Read_l0_b (K : Nat) (rec : ByteArray → Sl → Int → World → Option ((Out (Sl × Unit) (Sl × Bool × Unit)) × World)) (s0 : ByteArray) (out4 : Sl) (i5 : Int) (w : World) : Option ((Out (Sl × Unit) (Sl × Bool × Unit)) × World) :=
  if (decide (i5 < ((s0.size : Nat) : Int))) = true then (if (0 : Int) ≤ i5 then ((s0[(Int.toNat i5)]?).bind fun b_1 =>
  (ref11_gap ((b_1.toNat : Nat) : Int)).bind fun r_2 =>
  if r_2.1 = true then (rec s0 out4 (IntKind.i64.wrap (i5 + 1)) w) else (bnd (ref11_Read_l1 K K s0 out4 i5 i5 w) fun y_5 w_6 =>
  if ((IntKind.i64.wrap (y_5.1 - i5)) != 5) = true then (some (.ret (⟨none, 0, 0⟩, false, ()), w_6)) else (bnd (ref11_Read_l2 K K s0 out4 y_5.1 i5 0 true 0 w_6) fun y_18 w_19 =>
  bnd (ref11_Read_s7 K y_18.1 (!y_18.2.1) w_19) fun y_20 w_21 =>
  bnd (bldS prog 25 2 #[(0, (.int .u8 (IntKind.u8.wrap (IntKind.i64.wrap (Int.tdiv y_20.1 256))))), (1, (.int .u8 (IntKind.u8.wrap (Int.tmod y_20.1 256))))] w_21) fun s_22 w_23 =>
  bnd (apd prog 25 25 (.slice out4.a out4.len out4.cap) (.slice s_22.a s_22.len s_22.cap) w_23) fun s_24 w_25 =>
  rec s0 s_24 y_5.1 w_25))) else none) else (some (.norm (out4, ()), w))
noncomputable def ref11_Read_l0 (K : Nat) (n : Nat) : ByteArray → Sl → Int → World → Option ((Out (Sl × Unit) (Sl × Bool × Unit)) × World) := iter (fun _ _ _ _ => none) (ref11_Read_l0_b K) n
/-- coffer/cofferref11.Read -/
noncomputable def ref11_Read (K : Nat) (s0 : ByteArray) (w : World) : Option ((Sl × Bool × Unit) × World) :=
  bnd (ref11_Read_l0 K K s0 ⟨none, 0, 0⟩ 0 w) fun y_26 w_27 =>
  (match y_26 with
  | .norm z_28n => (some ((z_28n.1, true, ()), w_27))
  | .ret z_28r => (some ((z_28r.1, z_28r.2.1, ()), w_27)))
theorem ref11_Read_l1_ok (K : Nat) (n : Nat) : StmtNOk prog [(0, .str), (4, .sl), (5, .int .i64), (6, .int .i64)] [(5, .int .i64)] [(5, 6), (24, 37)] ((fun n x w => ref11_Read_l1 K n x.1 x.2.1 x.2.2.1 x.2.2.2.1 w) n) (.block 2 (.loop (cd (bodyOf f20) [1, 1, 1, 0, 0, 0, 1, 0, 1, 1, 0, 0, 0]))) :=
    mk_loopN (O := tabL []) (root := (bodyOf f20)) (π := [1, 1, 1, 0, 0, 0, 1, 0, 1, 1, 0, 0, 0]) (id := 2) (Li := [(0, .str), (4, .sl), (5, .int .i64), (6, .int .i64)]) (Lo := [(5, .int .i64)]) (S := (fun n x w => ref11_Read_l1 K n x.1 x.2.1 x.2.2.1 x.2.2.2.1 w)) (body := cd (bodyOf f20) [1, 1, 1, 0, 0, 0, 1, 0, 1, 1, 0, 0, 0]) (ref11_Read_Eok K) (ref11_Read_Rok K) rfl (Orc.nil _ _ _) (by kernel_rfl) (fun _ _ => by kernel_rfl) (fun _ _ _ => by kernel_rfl) n
noncomputable def ref11_Read_l1_se (K : Nat) : SE := stmtN [(0, .str), (4, .sl), (5, .int .i64), (6, .int .i64)] [(5, .int .i64)] [(5, 6), (24, 37)] (fun x w => ref11_Read_l1 K K x.1 x.2.1 x.2.2.1 x.2.2.2.1 w)
theorem ref11_Read_l1_se_ok (K : Nat) (R : Rg) (h : subRB [(5, 6), (24, 37)] R = true) : (ref11_Read_l1_se K).Ok prog R (.block 2 (.loop (cd (bodyOf f20) [1, 1, 1, 0, 0, 0, 1, 0, 1, 1, 0, 0, 0]))) := stmtN_ok (Li := [(0, .str), (4, .sl), (5, .int .i64), (6, .int .i64)]) (Lo := [(5, .int .i64)]) (S := (fun x w => ref11_Read_l1 K K x.1 x.2.1 x.2.2.1 x.2.2.2.1 w)) (ref11_Read_l1_ok K K) (subR_of h)
theorem ref11_Read_s3_ok (K : Nat) : StmtNOk prog [(10, .int .u8)] [(55, .bool)] [(50, 56)] (fun x w => ref11_Read_s3 K x.1 w) (cd (bodyOf f20) [1, 1, 1, 0, 0, 0, 1, 0, 1, 1, 1, 1, 1, 1, 0, 1, 0, 0, 1, 0, 0, 1, 0, 0]) :=
    mk_stmtN (O := tabL []) (root := (bodyOf f20)) (π := [1, 1, 1, 0, 0, 0, 1, 0, 1, 1, 1, 1, 1, 1, 0, 1, 0, 0, 1, 0, 0, 1, 0, 0]) (Li := [(10, .int .u8)]) (Lo := [(55, .bool)]) (S := (fun x w => ref11_Read_s3 K x.1 w)) (ref11_Read_Eok K) (ref11_Read_Rok K) rfl (Orc.nil _ _ _) (by kernel_rfl) (fun _ _ => by kernel_rfl)
noncomputable def ref11_Read_s3_se (K : Nat) : SE := stmtN [(10, .int .u8)] [(55, .bool)] [(50, 56)] (fun x w => ref11_Read_s3 K x.1 w)
theorem ref11_Read_s3_se_ok (K : Nat) (R : Rg) (h : subRB [(50, 56)] R = true) : (ref11_Read_s3_se K).Ok prog R (cd (bodyOf f20) [1, 1, 1, 0, 0, 0, 1, 0, 1, 1, 1, 1, 1, 1, 0, 1, 0, 0, 1, 0, 0, 1, 0, 0]) := stmtN_ok (Li := [(10, .int .u8)]) (Lo := [(55, .bool)]) (S := (fun x w => ref11_Read_s3 K x.1 w)) (ref11_Read_s3_ok K) (subR_of h)
theorem ref11_Read_s4_ok (K : Nat) : StmtNOk prog [(10, .int .u8), (55, .bool)] [(10, .int .u8)] [(10, 11), (56, 58)] (fun x w => ref11_Read_s4 K x.1 x.2.1 w) (cd (bodyOf f20) [1, 1, 1, 0, 0, 0, 1, 0, 1, 1, 1, 1, 1, 1, 0, 1, 0, 0, 1, 0, 0, 1, 0, 1]) :=
    mk_stmtN (O := tabL []) (root := (bodyOf f20)) (π := [1, 1, 1, 0, 0, 0, 1, 0, 1, 1, 1, 1, 1, 1, 0, 1, 0, 0, 1, 0, 0, 1, 0, 1]) (Li := [(10, .int .u8), (55, .bool)]) (Lo := [(10, .int .u8)]) (S := (fun x w => ref11_Read_s4 K x.1 x.2.1 w)) (ref11_Read_Eok K) (ref11_Read_Rok K) rfl (Orc.nil _ _ _) (by kernel_rfl) (fun _ _ => by kernel_rfl)
noncomputable def ref11_Read_s4_se (K : Nat) : SE := stmtN [(10, .int .u8), (55, .bool)] [(10, .int .u8)] [(10, 11), (56, 58)] (fun x w => ref11_Read_s4 K x.1 x.2.1 w)
theorem ref11_Read_s4_se_ok (K : Nat) (R : Rg) (h : subRB [(10, 11), (56, 58)] R = true) : (ref11_Read_s4_se K).Ok prog R (cd (bodyOf f20) [1, 1, 1, 0, 0, 0, 1, 0, 1, 1, 1, 1, 1, 1, 0, 1, 0, 0, 1, 0, 0, 1, 0, 1]) := stmtN_ok (Li := [(10, .int .u8), (55, .bool)]) (Lo := [(10, .int .u8)]) (S := (fun x w => ref11_Read_s4 K x.1 x.2.1 w)) (ref11_Read_s4_ok K) (subR_of h)
theorem ref11_Read_s5_ok (K : Nat) : StmtNOk prog [(8, .bool), (11, .int .i64)] [(8, .bool)] [(8, 9), (63, 68)] (fun x w => ref11_Read_s5 K x.1 x.2.1 w) (cd (bodyOf f20) [1, 1, 1, 0, 0, 0, 1, 0, 1, 1, 1, 1, 1, 1, 0, 1, 0, 0, 1, 0, 0, 1, 1, 1, 0, 1, 0]) :=
    mk_stmtN (O := tabL []) (root := (bodyOf f20)) (π := [1, 1, 1, 0, 0, 0, 1, 0, 1, 1, 1, 1, 1, 1, 0, 1, 0, 0, 1, 0, 0, 1, 1, 1, 0, 1, 0]) (Li := [(8, .bool), (11, .int .i64)]) (Lo := [(8, .bool)]) (S := (fun x w => ref11_Read_s5 K x.1 x.2.1 w)) (ref11_Read_Eok K) (ref11_Read_Rok K) rfl (Orc.nil _ _ _) (by kernel_rfl) (fun _ _ => by kernel_rfl)
noncomputable def ref11_Read_s5_se (K : Nat) : SE := stmtN [(8, .bool), (11, .int .i64)] [(8, .bool)] [(8, 9), (63, 68)] (fun x w => ref11_Read_s5 K x.1 x.2.1 w)
theorem ref11_Read_s5_se_ok (K : Nat) (R : Rg) (h : subRB [(8, 9), (63, 68)] R = true) : (ref11_Read_s5_se K).Ok prog R (cd (bodyOf f20) [1, 1, 1, 0, 0, 0, 1, 0, 1, 1, 1, 1, 1, 1, 0, 1, 0, 0, 1, 0, 0, 1, 1, 1, 0, 1, 0]) := stmtN_ok (Li := [(8, .bool), (11, .int .i64)]) (Lo := [(8, .bool)]) (S := (fun x w => ref11_Read_s5 K x.1 x.2.1 w)) (ref11_Read_s5_ok K) (subR_of h)
theorem ref11_Read_s6_ok (K : Nat) : StmtNOk prog [(8, .bool), (12, .int .i64)] [(8, .bool)] [(8, 9), (74, 79)] (fun x w => ref11_Read_s6 K x.1 x.2.1 w) (cd (bodyOf f20) [1, 1, 1, 0, 0, 0, 1, 0, 1, 1, 1, 1, 1, 1, 0, 1, 0, 0, 1, 0, 0, 1, 1, 1, 1, 1, 0]) :=
    mk_stmtN (O := tabL []) (root := (bodyOf f20)) (π := [1, 1, 1, 0, 0, 0, 1, 0, 1, 1, 1, 1, 1, 1, 0, 1, 0, 0, 1, 0, 0, 1, 1, 1, 1, 1, 0]) (Li := [(8, .bool), (12, .int .i64)]) (Lo := [(8, .bool)]) (S := (fun x w => ref11_Read_s6 K x.1 x.2.1 w)) (ref11_Read_Eok K) (ref11_Read_Rok K) rfl (Orc.nil _ _ _) (by kernel_rfl) (fun _ _ => by kernel_rfl)
noncomputable def ref11_Read_s6_se (K : Nat) : SE := stmtN [(8, .bool), (12, .int .i64)] [(8, .bool)] [(8, 9), (74, 79)] (fun x w => ref11_Read_s6 K x.1 x.2.1 w)
theorem ref11_Read_s6_se_ok (K : Nat) (R : Rg) (h : subRB [(8, 9), (74, 79)] R = true) : (ref11_Read_s6_se K).Ok prog R (cd (bodyOf f20) [1, 1, 1, 0, 0, 0, 1, 0, 1, 1, 1, 1, 1, 1, 0, 1, 0, 0, 1, 0, 0, 1, 1, 1, 1, 1, 0]) := stmtN_ok (Li := [(8, .bool), (12, .int .i64)]) (Lo := [(8, .bool)]) (S := (fun x w => ref11_Read_s6 K x.1 x.2.1 w)) (ref11_Read_s6_ok K) (subR_of h)
theorem ref11_Read_l2_ok (K : Nat) (n : Nat) : StmtNOk prog [(0, .str), (4, .sl), (5, .int .i64), (6, .int .i64), (7, .int .i64), (8, .bool), (9, .int .i64)] [(7, .int .i64), (8, .bool)] [(7, 13), (41, 83)] ((fun n x w => ref11_Read_l2 K n x.1 x.2.1 x.2.2.1 x.2.2.2.1 x.2.2.2.2.1 x.2.2.2.2.2.1 x.2.2.2.2.2.2.1 w) n) (.block 4 (.loop (cd (bodyOf f20) [1, 1, 1, 0, 0, 0, 1, 0, 1, 1, 1, 1, 1, 1, 0, 1, 0, 0]))) :=
    mk_loopN (O := tabL [([1, 1, 1, 0, 0, 0, 1, 0, 1, 1, 1, 1, 1, 1, 0, 1, 0, 0, 1, 0, 0, 1, 0, 0], ref11_Read_s3_se K), ([1, 1, 1, 0, 0, 0, 1, 0, 1, 1, 1, 1, 1, 1, 0, 1, 0, 0, 1, 0, 0, 1, 0, 1], ref11_Read_s4_se K), ([1, 1, 1, 0, 0, 0, 1, 0, 1, 1, 1, 1, 1, 1, 0, 1, 0, 0, 1, 0, 0, 1, 1, 1, 0, 1, 0], ref11_Read_s5_se K), ([1, 1, 1, 0, 0, 0, 1, 0, 1, 1, 1, 1, 1, 1, 0, 1, 0, 0, 1, 0, 0, 1, 1, 1, 1, 1, 0], ref11_Read_s6_se K)]) (root := (bodyOf f20)) (π := [1, 1, 1, 0, 0, 0, 1, 0, 1, 1, 1, 1, 1, 1, 0, 1, 0, 0]) (id := 4) (Li := [(0, .str), (4, .sl), (5, .int .i64), (6, .int .i64), (7, .int .i64), (8, .bool), (9, .int .i64)]) (Lo := [(7, .int .i64), (8, .bool)]) (S := (fun n x w => ref11_Read_l2 K n x.1 x.2.1 x.2.2.1 x.2.2.2.1 x.2.2.2.2.1 x.2.2.2.2.2.1 x.2.2.2.2.2.2.1 w)) (body := cd (bodyOf f20) [1, 1, 1, 0, 0, 0, 1, 0, 1, 1, 1, 1, 1, 1, 0, 1, 0, 0]) (ref11_Read_Eok K) (ref11_Read_Rok K) rfl (Orc.cons (by kernel_rfl) (ref11_Read_s3_se_ok K [(7, 13), (41, 83)] (by kernel_rfl)) (Orc.cons (by kernel_rfl) (ref11_Read_s4_se_ok K [(7, 13), (41, 83)] (by kernel_rfl)) (Orc.cons (by kernel_rfl) (ref11_Read_s5_se_ok K [(7, 13), (41, 83)] (by kernel_rfl)) (Orc.cons (by kernel_rfl) (ref11_Read_s6_se_ok K [(7, 13), (41, 83)] (by kernel_rfl)) (Orc.nil _ _ _))))) (by kernel_rfl) (fun _ _ => by kernel_rfl) (fun _ _ _ => by kernel_rfl) n
noncomputable def ref11_Read_l2_se (K : Nat) : SE := stmtN [(0, .str), (4, .sl), (5, .int .i64), (6, .int .i64), (7, .int .i64), (8, .bool), (9, .int .i64)] [(7, .int .i64), (8, .bool)] [(7, 13), (41, 83)] (fun x w => ref11_Read_l2 K K x.1 x.2.1 x.2.2.1 x.2.2.2.1 x.2.2.2.2.1 x.2.2.2.2.2.1 x.2.2.2.2.2.2.1 w)
theorem ref11_Read_l2_se_ok (K : Nat) (R : Rg) (h : subRB [(7, 13), (41, 83)] R = true) : (ref11_Read_l2_se K).Ok prog R (.block 4 (.loop (cd (bodyOf f20) [1, 1, 1, 0, 0, 0, 1, 0, 1, 1, 1, 1, 1, 1, 0, 1, 0, 0]))) := stmtN_ok (Li := [(0, .str), (4, .sl), (5, .int .i64), (6, .int .i64), (7, .int .i64), (8, .bool), (9, .int .i64)]) (Lo := [(7, .int .i64), (8, .bool)]) (S := (fun x w => ref11_Read_l2 K K x.1 x.2.1 x.2.2.1 x.2.2.2.1 x.2.2.2.2.1 x.2.2.2.2.2.1 x.2.2.2.2.2.2.1 w)) (ref11_Read_l2_ok K K) (subR_of h)
theorem ref11_Read_s7_ok (K : Nat) : StmtNOk prog [(7, .int .i64), (84, .bool)] [(7, .int .i64)] [(7, 8)] (fun x w => ref11_Read_s7 K x.1 x.2.1 w) (cd (bodyOf f20) [1, 1, 1, 0, 0, 0, 1, 0, 1, 1, 1, 1, 1, 1, 1, 0, 1]) :=
    mk_stmtN (O := tabL []) (root := (bodyOf f20)) (π := [1, 1, 1, 0, 0, 0, 1, 0, 1, 1, 1, 1, 1, 1, 1, 0, 1]) (Li := [(7, .int .i64), (84, .bool)]) (Lo := [(7, .int .i64)]) (S := (fun x w => ref11_Read_s7 K x.1 x.2.1 w)) (ref11_Read_Eok K) (ref11_Read_Rok K) rfl (Orc.nil _ _ _) (by kernel_rfl) (fun _ _ => by kernel_rfl)
noncomputable def ref11_Read_s7_se (K : Nat) : SE := stmtN [(7, .int .i64), (84, .bool)] [(7, .int .i64)] [(7, 8)] (fun x w => ref11_Read_s7 K x.1 x.2.1 w)
theorem ref11_Read_s7_se_ok (K : Nat) (R : Rg) (h : subRB [(7, 8)] R = true) : (ref11_Read_s7_se K).Ok prog R (cd (bodyOf f20) [1, 1, 1, 0, 0, 0, 1, 0, 1, 1, 1, 1, 1, 1, 1, 0, 1]) := stmtN_ok (Li := [(7, .int .i64), (84, .bool)]) (Lo := [(7, .int .i64)]) (S := (fun x w => ref11_Read_s7 K x.1 x.2.1 w)) (ref11_Read_s7_ok K) (subR_of h)
theorem ref11_Read_l0_ok (K : Nat) (n : Nat) : StmtOk prog [(0, .str), (4, .sl), (5, .int .i64)] [(4, .sl)] [(2, .sl), (3, .bool)] [(2, 94)] ((fun n x w => ref11_Read_l0 K n x.1 x.2.1 x.2.2.1 w) n) (.block 0 (.loop (cd (bodyOf f20) [1, 1, 1, 0, 0, 0]))) :=
    mk_loop (O := tabL [([1, 1, 1, 0, 0, 0, 1, 0, 1, 1, 0], ref11_Read_l1_se K), ([1, 1, 1, 0, 0, 0, 1, 0, 1, 1, 1, 1, 1, 1, 0, 1], ref11_Read_l2_se K), ([1, 1, 1, 0, 0, 0, 1, 0, 1, 1, 1, 1, 1, 1, 0, 1, 0, 0, 1, 0, 0, 1, 0, 0], ref11_Read_s3_se K), ([1, 1, 1, 0, 0, 0, 1, 0, 1, 1, 1, 1, 1, 1, 0, 1, 0, 0, 1, 0, 0, 1, 0, 1], ref11_Read_s4_se K), ([1, 1, 1, 0, 0, 0, 1, 0, 1, 1, 1, 1, 1, 1, 0, 1, 0, 0, 1, 0, 0, 1, 1, 1, 0, 1, 0], ref11_Read_s5_se K), ([1, 1, 1, 0, 0, 0, 1, 0, 1, 1, 1, 1, 1, 1, 0, 1, 0, 0, 1, 0, 0, 1, 1, 1, 1, 1, 0], ref11_Read_s6_se K), ([1, 1, 1, 0, 0, 0, 1, 0, 1, 1, 1, 1, 1, 1, 1, 0, 1], ref11_Read_s7_se K)]) (root := (bodyOf f20)) (π := [1, 1, 1, 0, 0, 0]) (id := 0) (Li := [(0, .str), (4, .sl), (5, .int .i64)]) (Lo := [(4, .sl)]) (Lr := [(2, .sl), (3, .bool)]) (S := (fun n x w => ref11_Read_l0 K n x.1 x.2.1 x.2.2.1 w)) (body := cd (bodyOf f20) [1, 1, 1, 0, 0, 0]) (ref11_Read_Eok K) (ref11_Read_Rok K) rfl (Orc.cons (by kernel_rfl) (ref11_Read_l1_se_ok K [(2, 94)] (by kernel_rfl)) (Orc.cons (by kernel_rfl) (ref11_Read_l2_se_ok K [(2, 94)] (by kernel_rfl)) (Orc.cons (by kernel_rfl) (ref11_Read_s3_se_ok K [(2, 94)] (by kernel_rfl)) (Orc.cons (by kernel_rfl) (ref11_Read_s4_se_ok K [(2, 94)] (by kernel_rfl)) (Orc.cons (by kernel_rfl) (ref11_Read_s5_se_ok K [(2, 94)] (by kernel_rfl)) (Orc.cons (by kernel_rfl) (ref11_Read_s6_se_ok K [(2, 94)] (by kernel_rfl)) (Orc.cons (by kernel_rfl) (ref11_Read_s7_se_ok K [(2, 94)] (by kernel_rfl)) (Orc.nil _ _ _)))))))) (by kernel_rfl) (fun _ _ => by kernel_rfl) (fun _ _ _ => by kernel_rfl) n
noncomputable def ref11_Read_l0_se (K : Nat) : SE := stmt [(0, .str), (4, .sl), (5, .int .i64)] [(4, .sl)] [(2, .sl), (3, .bool)] [(2, 94)] (fun x w => ref11_Read_l0 K K x.1 x.2.1 x.2.2.1 w)
theorem ref11_Read_l0_se_ok (K : Nat) (R : Rg) (h : subRB [(2, 94)] R = true) : (ref11_Read_l0_se K).Ok prog R (.block 0 (.loop (cd (bodyOf f20) [1, 1, 1, 0, 0, 0]))) := stmt_ok (Li := [(0, .str), (4, .sl), (5, .int .i64)]) (Lo := [(4, .sl)]) (Lr := [(2, .sl), (3, .bool)]) (S := (fun x w => ref11_Read_l0 K K x.1 x.2.1 x.2.2.1 w)) (ref11_Read_l0_ok K K) (subR_of h)
theorem ref11_Read_facts : FunFacts prog 20 f20 (bodyOf f20) [(0, .str)] [(0, 95)] := ⟨func20, by kernel_rfl, by kernel_rfl, by kernel_rfl, by kernel_rfl, by kernel_rfl⟩
theorem ref11_Read_calls (K : Nat) (x : TT [(0, .str)]) (w : World) (y : TR [.sl, .bool]) (w2 : World) (h : ref11_Read K x.1 w = some (y, w2)) : Calls prog 20 (encA [(0, .str)] x).toArray w (fun e w3 => e = .returned (resV (encR [.sl, .bool] y)) ∧ w3 = w2) :=
    mk_fun (O := tabL [([1, 1, 1, 0], ref11_Read_l0_se K), ([1, 1, 1, 0, 0, 0, 1, 0, 1, 1, 0], ref11_Read_l1_se K), ([1, 1, 1, 0, 0, 0, 1, 0, 1, 1, 1, 1, 1, 1, 0, 1], ref11_Read_l2_se K), ([1, 1, 1, 0, 0, 0, 1, 0, 1, 1, 1, 1, 1, 1, 0, 1, 0, 0, 1, 0, 0, 1, 0, 0], ref11_Read_s3_se K), ([1, 1, 1, 0, 0, 0, 1, 0, 1, 1, 1, 1, 1, 1, 0, 1, 0, 0, 1, 0, 0, 1, 0, 1], ref11_Read_s4_se K), ([1, 1, 1, 0, 0, 0, 1, 0, 1, 1, 1, 1, 1, 1, 0, 1, 0, 0, 1, 0, 0, 1, 1, 1, 0, 1, 0], ref11_Read_s5_se K), ([1, 1, 1, 0, 0, 0, 1, 0, 1, 1, 1, 1, 1, 1, 0, 1, 0, 0, 1, 0, 0, 1, 1, 1, 1, 1, 0], ref11_Read_s6_se K), ([1, 1, 1, 0, 0, 0, 1, 0, 1, 1, 1, 1, 1, 1, 1, 0, 1], ref11_Read_s7_se K)]) (Lp := [(0, .str)]) (Rt := [.sl, .bool]) (S := (fun x w => ref11_Read K x.1 w)) (ref11_Read_Eok K) (ref11_Read_Rok K) rfl ref11_Read_facts (Orc.cons (by kernel_rfl) (ref11_Read_l0_se_ok K [(0, 95)] (by kernel_rfl)) (Orc.cons (by kernel_rfl) (ref11_Read_l1_se_ok K [(0, 95)] (by kernel_rfl)) (Orc.cons (by kernel_rfl) (ref11_Read_l2_se_ok K [(0, 95)] (by kernel_rfl)) (Orc.cons (by kernel_rfl) (ref11_Read_s3_se_ok K [(0, 95)] (by kernel_rfl)) (Orc.cons (by kernel_rfl) (ref11_Read_s4_se_ok K [(0, 95)] (by kernel_rfl)) (Orc.cons (by kernel_rfl) (ref11_Read_s5_se_ok K [(0, 95)] (by kernel_rfl)) (Orc.cons (by kernel_rfl) (ref11_Read_s6_se_ok K [(0, 95)] (by kernel_rfl)) (Orc.cons (by kernel_rfl) (ref11_Read_s7_se_ok K [(0, 95)] (by kernel_rfl)) (Orc.nil _ _ _))))))))) (fun _ _ => by kernel_rfl) x w y w2 h
noncomputable def ref11_Read_ce (K : Nat) : CE := funE [(0, .str)] [.sl, .bool] (fun x w => ref11_Read K x.1 w)
theorem ref11_Read_ok (K : Nat) : (ref11_Read_ce K).Ok prog 20 := funE_ok (Rt := [.sl, .bool]) (S := (fun x w => ref11_Read K x.1 w)) ref11_Read_facts fun x w y w2 h => ref11_Read_calls K x w y w2 h

noncomputable def ref02_Times_R (K : Nat) : List (Nat × RE) := []
theorem ref02_Times_Rok (K : Nat) : REnv.Ok prog (tab (ref02_Times_R K)) := (REnv.nil _)
noncomputable def ref02_Times_l0_b (K : Nat) (rec : Int → Int → Int → Int → Option (Out (Int × Unit) (Int × Unit))) (a0 : Int) (b1 : Int) (p5 : Int) (i6 : Int) : Option (Out (Int × Unit) (Int × Unit)) :=
  if (decide (i6 < 8)) = true then (if (0 : Int) ≤ (IntKind.u64.wrap i6) then (if ((Int.tmod (Int.fdiv (IntKind.i64.wrap b1) (2 ^ (min (Int.toNat (IntKind.u64.wrap i6)) IntKind.i64.bits))) 2) == 1) = true then (if (0 : Int) ≤ (IntKind.u64.wrap i6) then (rec a0 b1 (bits .xor .i64 p5 (IntKind.i64.wrap ((IntKind.i64.wrap a0) * 2 ^ (min (Int.toNat (IntKind.u64.wrap i6)) IntKind.i64.bits)))) (IntKind.i64.wrap (i6 + 1))) else none) else (rec a0 b1 p5 (IntKind.i64.wrap (i6 + 1)))) else none) else (some (.norm (p5, ())))
noncomputable def ref02_Times_l0 (K : Nat) (n : Nat) : Int → Int → Int → Int → Option (Out (Int × Unit) (Int × Unit)) := iter (fun _ _ _ _ => none) (ref02_Times_l0_b K) n
noncomputable def ref02_Times_l1_b (K : Nat) (rec : Int → Int → Option (Out (Int × Unit) (Int × Unit))) (p5 : Int) (i7 : Int) : Option (Out (Int × Unit) (Int × Unit)) :=
  if (decide (i7 ≥ 8)) = true then (if (0 : Int) ≤ (IntKind.u64.wrap i7) then (if ((Int.tmod (Int.fdiv p5 (2 ^ (min (Int.toNat (IntKind.u64.wrap i7)) IntKind.i64.bits))) 2) == 1) = true then (if (0 : Int) ≤ (IntKind.u64.wrap (IntKind.i64.wrap (i7 - 8))) then (rec (bits .xor .i64 p5 (IntKind.i64.wrap (283 * 2 ^ (min (Int.toNat (IntKind.u64.wrap (IntKind.i64.wrap (i7 - 8)))) IntKind.i64.bits)))) (IntKind.i64.wrap (i7 - 1))) else none) else (rec p5 (IntKind.i64.wrap (i7 - 1)))) else none) else (some (.norm (p5, ())))
noncomputable def ref02_Times_l1 (K : Nat) (n : Nat) : Int → Int → Option (Out (Int × Unit) (Int × Unit)) := iter (fun _ _ => none) (ref02_Times_l1_b K) n
/-- coffer/cofferref02.Times -/
noncomputable def ref02_Times (K : Nat) (a0 : Int) (b1 : Int) : Option (Int × Unit) :=
  (ref02_Times_l0 K K a0 b1 0 0).bind fun y_1 =>
  (match y_1 with
  | .norm z_2n => ((ref02_Times_l1 K K z_2n.1 14).bind fun y_3 =>
  (match y_3 with
  | .norm z_4n => (some ((IntKind.u8.wrap z_4n.1), ()))
  | .ret z_4r => (some (z_4r.1, ()))))
  | .ret z_2r => (some (z_2r.1, ())))
theorem ref02_Times_l0_ok (K : Nat) (n : Nat) : StmtQOk prog [(0, .int .u8), (1, .int .u8), (5, .int .i64), (6, .int .i64)] [(5, .int .i64)] [(4, .int .u8)] [(5, 7), (8, 26)] ((fun n x w => ref02_Times_l0 K n x.1 x.2.1 x.2.2.1 x.2.2.2.1) n) (.block 0 (.loop (cd (bodyOf f36) [1, 1, 0, 1, 0, 0]))) :=
    mk_loopQ (O := tabL []) (root := (bodyOf f36)) (π := [1, 1, 0, 1, 0, 0]) (id := 0) (Li := [(0, .int .u8), (1, .int .u8), (5, .int .i64), (6, .int .i64)]) (Lo := [(5, .int .i64)]) (Lr := [(4, .int .u8)]) (S := (fun n x w => ref02_Times_l0 K n x.1 x.2.1 x.2.2.1 x.2.2.2.1)) (body := cd (bodyOf f36) [1, 1, 0, 1, 0, 0]) (ref02_Times_Rok K) (OrcQ.nil _ _ _) (by kernel_rfl) (fun _ _ => by kernel_rfl) (fun _ _ _ => by kernel_rfl) n
noncomputable def ref02_Times_l0_se (K : Nat) : SQ := stmtQ [(0, .int .u8), (1, .int .u8), (5, .int .i64), (6, .int .i64)] [(5, .int .i64)] [(4, .int .u8)] [(5, 7), (8, 26)] (fun x w => ref02_Times_l0 K K x.1 x.2.1 x.2.2.1 x.2.2.2.1)
theorem ref02_Times_l0_se_ok (K : Nat) (R : Rg) (h : subRB [(5, 7), (8, 26)] R = true) : (ref02_Times_l0_se K).Ok prog R (.block 0 (.loop (cd (bodyOf f36) [1, 1, 0, 1, 0, 0]))) := stmtQ_ok (Li := [(0, .int .u8), (1, .int .u8), (5, .int .i64), (6, .int .i64)]) (Lo := [(5, .int .i64)]) (Lr := [(4, .int .u8)]) (S := (fun x w => ref02_Times_l0 K K x.1 x.2.1 x.2.2.1 x.2.2.2.1)) (ref02_Times_l0_ok K K) (subR_of h)
theorem ref02_Times_l1_ok (K : Nat) (n : Nat) : StmtQOk prog [(5, .int .i64), (7, .int .i64)] [(5, .int .i64)] [(4, .int .u8)] [(5, 6), (7, 8), (26, 42)] ((fun n x w => ref02_Times_l1 K n x.1 x.2.1) n) (.block 2 (.loop (cd (bodyOf f36) [1, 1, 1, 0, 1, 0, 0]))) :=
    mk_loopQ (O := tabL []) (root := (bodyOf f36)) (π := [1, 1, 1, 0, 1, 0, 0]) (id := 2) (Li := [(5, .int .i64), (7, .int .i64)]) (Lo := [(5, .int .i64)]) (Lr := [(4, .int .u8)]) (S := (fun n x w => ref02_Times_l1 K n x.1 x.2.1)) (body := cd (bodyOf f36) [1, 1, 1, 0, 1, 0, 0]) (ref02_Times_Rok K) (OrcQ.nil _ _ _) (by kernel_rfl) (fun _ _ => by kernel_rfl) (fun _ _ _ => by kernel_rfl) n
noncomputable def ref02_Times_l1_se (K : Nat) : SQ := stmtQ [(5, .int .i64), (7, .int .i64)] [(5, .int .i64)] [(4, .int .u8)] [(5, 6), (7, 8), (26, 42)] (fun x w => ref02_Times_l1 K K x.1 x.2.1)
theorem ref02_Times_l1_se_ok (K : Nat) (R : Rg) (h : subRB [(5, 6), (7, 8), (26, 42)] R = true) : (ref02_Times_l1_se K).Ok prog R (.block 2 (.loop (cd (bodyOf f36) [1, 1, 1, 0, 1, 0, 0]))) := stmtQ_ok (Li := [(5, .int .i64), (7, .int .i64)]) (Lo := [(5, .int .i64)]) (Lr := [(4, .int .u8)]) (S := (fun x w => ref02_Times_l1 K K x.1 x.2.1)) (ref02_Times_l1_ok K K) (subR_of h)
theorem ref02_Times_facts : FunFacts prog 36 f36 (bodyOf f36) [(0, .int .u8), (1, .int .u8)] [(0, 44)] := ⟨func36, by kernel_rfl, by kernel_rfl, by kernel_rfl, by kernel_rfl, by kernel_rfl⟩
theorem ref02_Times_calls (K : Nat) (x : TT [(0, .int .u8), (1, .int .u8)]) (w : World) (y : TR [.int .u8]) (h : ref02_Times K x.1 x.2.1 = some y) : Calls prog 36 (encA [(0, .int .u8), (1, .int .u8)] x).toArray w (fun e w3 => e = .returned (resV (encR [.int .u8] y)) ∧ w3 = w) :=
    mk_funQ (O := tabL [([1, 1, 0, 1], ref02_Times_l0_se K), ([1, 1, 1, 0, 1], ref02_Times_l1_se K)]) (Lp := [(0, .int .u8), (1, .int .u8)]) (Rt := [.int .u8]) (S := (fun x w => ref02_Times K x.1 x.2.1)) (ref02_Times_Rok K) ref02_Times_facts (OrcQ.cons (by kernel_rfl) (ref02_Times_l0_se_ok K [(0, 44)] (by kernel_rfl)) (OrcQ.cons (by kernel_rfl) (ref02_Times_l1_se_ok K [(0, 44)] (by kernel_rfl)) (OrcQ.nil _ _ _))) (fun _ _ => by kernel_rfl) x w y h
noncomputable def ref02_Times_re (K : Nat) : RE := funR [(0, .int .u8), (1, .int .u8)] [.int .u8] (fun x w => ref02_Times K x.1 x.2.1)
theorem ref02_Times_ok (K : Nat) : (ref02_Times_re K).Ok prog 36 := funR_ok (Rt := [.int .u8]) (S := (fun x w => ref02_Times K x.1 x.2.1)) ref02_Times_facts fun x w y h => ref02_Times_calls K x w y h

noncomputable def ref11_times_R (K : Nat) : List (Nat × RE) := [(36, ref02_Times_re K)]
theorem ref11_times_Rok (K : Nat) : REnv.Ok prog (tab (ref11_times_R K)) := (REnv.cons (ref02_Times_ok K) (REnv.nil _))
/-- coffer/cofferref11.times -/
noncomputable def ref11_times (K : Nat) (a0 : Int) (b1 : Int) : Option (Int × Unit) :=
  (ref02_Times K a0 b1).bind fun r_1 =>
  some (r_1.1, ())
theorem ref11_times_facts : FunFacts prog 30 f30 (bodyOf f30) [(0, .int .u8), (1, .int .u8)] [(0, 8)] := ⟨func30, by kernel_rfl, by kernel_rfl, by kernel_rfl, by kernel_rfl, by kernel_rfl⟩
theorem ref11_times_calls (K : Nat) (x : TT [(0, .int .u8), (1, .int .u8)]) (w : World) (y : TR [.int .u8]) (h : ref11_times K x.1 x.2.1 = some y) : Calls prog 30 (encA [(0, .int .u8), (1, .int .u8)] x).toArray w (fun e w3 => e = .returned (resV (encR [.int .u8] y)) ∧ w3 = w) :=
    mk_funQ (O := tabL []) (Lp := [(0, .int .u8), (1, .int .u8)]) (Rt := [.int .u8]) (S := (fun x w => ref11_times K x.1 x.2.1)) (ref11_times_Rok K) ref11_times_facts (OrcQ.nil _ _ _) (fun _ _ => by kernel_rfl) x w y h
noncomputable def ref11_times_re (K : Nat) : RE := funR [(0, .int .u8), (1, .int .u8)] [.int .u8] (fun x w => ref11_times K x.1 x.2.1)
theorem ref11_times_ok (K : Nat) : (ref11_times_re K).Ok prog 30 := funR_ok (Rt := [.int .u8]) (S := (fun x w => ref11_times K x.1 x.2.1)) ref11_times_facts fun x w y h => ref11_times_calls K x w y h

noncomputable def ref11_Powers_E (K : Nat) : List (Nat × CE) := []
theorem ref11_Powers_Eok (K : Nat) : Env.Ok prog (tab (ref11_Powers_E K)) := (Env.nil _)
noncomputable def ref11_Powers_R (K : Nat) : List (Nat × RE) := [(30, ref11_times_re K)]
theorem ref11_Powers_Rok (K : Nat) : REnv.Ok prog (tab (ref11_Powers_R K)) := (REnv.cons (ref11_times_ok K) (REnv.nil _))
noncomputable def ref11_Powers_l0_b (K : Nat) (rec : Int → Sl → Int → Int → World → Option ((Sl × Unit) × World)) (n0 : Int) (l3 : Sl) (v4 : Int) (i5 : Int) (w : World) : Option ((Sl × Unit) × World) :=
  if (decide (i5 < n0)) = true then (bnd (bldS prog 25 1 #[(0, (.int .u8 v4))] w) fun s_1 w_2 =>
  bnd (apd prog 25 25 (.slice l3.a l3.len l3.cap) (.slice s_1.a s_1.len s_1.cap) w_2) fun s_3 w_4 =>
  (ref11_times K v4 3).bind fun r_5 =>
  rec n0 s_3 r_5.1 (IntKind.i64.wrap (i5 + 1)) w_4) else (some ((l3, ()), w))
noncomputable def ref11_Powers_l0 (K : Nat) (n : Nat) : Int → Sl → Int → Int → World → Option ((Sl × Unit) × World) := iter (fun _ _ _ _ _ => none) (ref11_Powers_l0_b K) n
/-- coffer/cofferref11.Powers -/
noncomputable def ref11_Powers (K : Nat) (n0 : Int) (w : World) : Option ((Sl × Unit) × World) :=
  bnd (ref11_Powers_l0 K K n0 ⟨none, 0, 0⟩ 1 0 w) fun y_6 w_7 =>
  some ((y_6.1, ()), w_7)
theorem ref11_Powers_l0_ok (K : Nat) (n : Nat) : StmtNOk prog [(0, .int .i64), (3, .sl), (4, .int .u8), (5, .int .i64)] [(3, .sl)] [(3, 17)] ((fun n x w => ref11_Powers_l0 K n x.1 x.2.1 x.2.2.1 x.2.2.2.1 w) n) (.block 0 (.loop (cd (bodyOf f29) [1, 1, 1, 0, 1, 0, 0]))) :=
    mk_loopN (O := tabL []) (root := (bodyOf f29)) (π := [1, 1, 1, 0, 1, 0, 0]) (id := 0) (Li := [(0, .int .i64), (3, .sl), (4, .int .u8), (5, .int .i64)]) (Lo := [(3, .sl)]) (S := (fun n x w => ref11_Powers_l0 K n x.1 x.2.1 x.2.2.1 x.2.2.2.1 w)) (body := cd (bodyOf f29) [1, 1, 1, 0, 1, 0, 0]) (ref11_Powers_Eok K) (ref11_Powers_Rok K) rfl (Orc.nil _ _ _) (by kernel_rfl) (fun _ _ => by kernel_rfl) (fun _ _ _ => by kernel_rfl) n
noncomputable def ref11_Powers_l0_se (K : Nat) : SE := stmtN [(0, .int .i64), (3, .sl), (4, .int .u8), (5, .int .i64)] [(3, .sl)] [(3, 17)] (fun x w => ref11_Powers_l0 K K x.1 x.2.1 x.2.2.1 x.2.2.2.1 w)
theorem ref11_Powers_l0_se_ok (K : Nat) (R : Rg) (h : subRB [(3, 17)] R = true) : (ref11_Powers_l0_se K).Ok prog R (.block 0 (.loop (cd (bodyOf f29) [1, 1, 1, 0, 1, 0, 0]))) := stmtN_ok (Li := [(0, .int .i64), (3, .sl), (4, .int .u8), (5, .int .i64)]) (Lo := [(3, .sl)]) (S := (fun x w => ref11_Powers_l0 K K x.1 x.2.1 x.2.2.1 x.2.2.2.1 w)) (ref11_Powers_l0_ok K K) (subR_of h)
theorem ref11_Powers_facts : FunFacts prog 29 f29 (bodyOf f29) [(0, .int .i64)] [(0, 18)] := ⟨func29, by kernel_rfl, by kernel_rfl, by kernel_rfl, by kernel_rfl, by kernel_rfl⟩
theorem ref11_Powers_calls (K : Nat) (x : TT [(0, .int .i64)]) (w : World) (y : TR [.sl]) (w2 : World) (h : ref11_Powers K x.1 w = some (y, w2)) : Calls prog 29 (encA [(0, .int .i64)] x).toArray w (fun e w3 => e = .returned (resV (encR [.sl] y)) ∧ w3 = w2) :=
    mk_fun (O := tabL [([1, 1, 1, 0, 1], ref11_Powers_l0_se K)]) (Lp := [(0, .int .i64)]) (Rt := [.sl]) (S := (fun x w => ref11_Powers K x.1 w)) (ref11_Powers_Eok K) (ref11_Powers_Rok K) rfl ref11_Powers_facts (Orc.cons (by kernel_rfl) (ref11_Powers_l0_se_ok K [(0, 18)] (by kernel_rfl)) (Orc.nil _ _ _)) (fun _ _ => by kernel_rfl) x w y w2 h
noncomputable def ref11_Powers_ce (K : Nat) : CE := funE [(0, .int .i64)] [.sl] (fun x w => ref11_Powers K x.1 w)
theorem ref11_Powers_ok (K : Nat) : (ref11_Powers_ce K).Ok prog 29 := funE_ok (Rt := [.sl]) (S := (fun x w => ref11_Powers K x.1 w)) ref11_Powers_facts fun x w y w2 h => ref11_Powers_calls K x w y w2 h

noncomputable def ref11_Sums_E (K : Nat) : List (Nat × CE) := [(29, ref11_Powers_ce K)]
theorem ref11_Sums_Eok (K : Nat) : Env.Ok prog (tab (ref11_Sums_E K)) := (Env.cons (ref11_Powers_ok K) (Env.nil _))
noncomputable def ref11_Sums_R (K : Nat) : List (Nat × RE) := [(30, ref11_times_re K)]
theorem ref11_Sums_Rok (K : Nat) : REnv.Ok prog (tab (ref11_Sums_R K)) := (REnv.cons (ref11_times_ok K) (REnv.nil _))
noncomputable def ref11_Sums_l1_b (K : Nat) (rec : Sl → Addr → Addr → Sl → Int → Int → Int → World → Option ((Unit) × World)) (b0 : Sl) (a2 : Addr) (s3 : Addr) (p4 : Sl) (n5 : Int) (i6 : Int) (j7 : Int) (w : World) : Option ((Unit) × World) :=
  if (decide (j7 < 4)) = true then (if (0 : Int) ≤ j7 ∧ j7 < ((4 : Nat) : Int) then ((b0.a).bind fun p_7 =>
  if (0 : Int) ≤ i6 ∧ i6 < ((b0.len : Nat) : Int) then ((p4.a).bind fun p_8 =>
  if (0 : Int) ≤ (Int.tmod (IntKind.i64.wrap (j7 * (IntKind.i64.wrap ((IntKind.i64.wrap (n5 - 1)) - i6)))) 255) ∧ (Int.tmod (IntKind.i64.wrap (j7 * (IntKind.i64.wrap ((IntKind.i64.wrap (n5 - 1)) - i6)))) 255) < ((p4.len : Nat) : Int) then ((ldI .u8 (s3.add ((Int.toNat j7) * 1)) w.drew).bind fun v_9 =>
  (ldI .u8 (p_7.add ((Int.toNat i6) * 1)) w.drew).bind fun v_10 =>
  (ldI .u8 (p_8.add ((Int.toNat (Int.tmod (IntKind.i64.wrap (j7 * (IntKind.i64.wrap ((IntKind.i64.wrap (n5 - 1)) - i6)))) 255)) * 1)) w.drew).bind fun v_11 =>
  (ref11_times K v_10 v_11).bind fun r_12 =>
  if (0 : Int) ≤ j7 ∧ j7 < ((4 : Nat) : Int) then ((stC (s3.add ((Int.toNat j7) * 1)) (.int .u8 (bits .xor .u8 v_9 r_12.1)) w.drew).bind fun w_13 =>
  rec b0 a2 s3 p4 n5 i6 (IntKind.i64.wrap (j7 + 1)) w_13) else none) else none) else none) else none) else (some ((), w))
noncomputable def ref11_Sums_l1 (K : Nat) (n : Nat) : Sl → Addr → Addr → Sl → Int → Int → Int → World → Option ((Unit) × World) := iter (fun _ _ _ _ _ _ _ _ => none) (ref11_Sums_l1_b K) n
noncomputable def ref11_Sums_l0_b (K : Nat) (rec : Sl → Addr → Addr → Sl → Int → Int → World → Option ((Unit) × World)) (b0 : Sl) (a2 : Addr) (s3 : Addr) (p4 : Sl) (n5 : Int) (i6 : Int) (w : World) : Option ((Unit) × World) :=
  if (decide (i6 < n5)) = true then (bnd (ref11_Sums_l1 K K b0 a2 s3 p4 n5 i6 0 w) fun y_14 w_15 =>
  rec b0 a2 s3 p4 n5 (IntKind.i64.wrap (i6 + 1)) w_15) else (some ((), w))
noncomputable def ref11_Sums_l0 (K : Nat) (n : Nat) : Sl → Addr → Addr → Sl → Int → Int → World → Option ((Unit) × World) := iter (fun _ _ _ _ _ _ _ => none) (ref11_Sums_l0_b K) n
/-- coffer/cofferref11.Sums -/
noncomputable def ref11_Sums (K : Nat) (b0 : Sl) (w : World) : Option (((Array Value) × Unit) × World) :=
  bnd (newB z60 60 w) fun p_1 w_2 =>
  bnd (newB z60 60 w_2) fun s_3 w_4 =>
  bnd (ref11_Powers K 255 w_4) fun r_5 w_6 =>
  bnd (ref11_Sums_l0 K K b0 p_1 s_3 r_5.1 ((b0.len : Nat) : Int) 0 w_6) fun y_16 w_17 =>
  (ldA 4 s_3 w_17).bind fun v_18 =>
  if (v_18).size = 4 then ((stA p_1 v_18 w_17).bind fun w_19 =>
  (ldA 4 p_1 w_19).bind fun res_20 =>
  some ((res_20, ()), w_19)) else none
theorem ref11_Sums_l1_ok (K : Nat) (n : Nat) : StmtNOk prog [(0, .sl), (2, .addr), (3, .addr), (4, .sl), (5, .int .i64), (6, .int .i64), (7, .int .i64)] [] [(7, 8), (16, 41)] ((fun n x w => ref11_Sums_l1 K n x.1 x.2.1 x.2.2.1 x.2.2.2.1 x.2.2.2.2.1 x.2.2.2.2.2.1 x.2.2.2.2.2.2.1 w) n) (.block 2 (.loop (cd (bodyOf f28) [1, 1, 1, 1, 0, 1, 0, 0, 1, 0, 0, 1, 0, 0]))) :=
    mk_loopN (O := tabL []) (root := (bodyOf f28)) (π := [1, 1, 1, 1, 0, 1, 0, 0, 1, 0, 0, 1, 0, 0]) (id := 2) (Li := [(0, .sl), (2, .addr), (3, .addr), (4, .sl), (5, .int .i64), (6, .int .i64), (7, .int .i64)]) (Lo := []) (S := (fun n x w => ref11_Sums_l1 K n x.1 x.2.1 x.2.2.1 x.2.2.2.1 x.2.2.2.2.1 x.2.2.2.2.2.1 x.2.2.2.2.2.2.1 w)) (body := cd (bodyOf f28) [1, 1, 1, 1, 0, 1, 0, 0, 1, 0, 0, 1, 0, 0]) (ref11_Sums_Eok K) (ref11_Sums_Rok K) rfl (Orc.nil _ _ _) (by kernel_rfl) (fun _ _ => by kernel_rfl) (fun _ _ _ => by kernel_rfl) n
noncomputable def ref11_Sums_l1_se (K : Nat) : SE := stmtN [(0, .sl), (2, .addr), (3, .addr), (4, .sl), (5, .int .i64), (6, .int .i64), (7, .int .i64)] [] [(7, 8), (16, 41)] (fun x w => ref11_Sums_l1 K K x.1 x.2.1 x.2.2.1 x.2.2.2.1 x.2.2.2.2.1 x.2.2.2.2.2.1 x.2.2.2.2.2.2.1 w)
theorem ref11_Sums_l1_se_ok (K : Nat) (R : Rg) (h : subRB [(7, 8), (16, 41)] R = true) : (ref11_Sums_l1_se K).Ok prog R (.block 2 (.loop (cd (bodyOf f28) [1, 1, 1, 1, 0, 1, 0, 0, 1, 0, 0, 1, 0, 0]))) := stmtN_ok (Li := [(0, .sl), (2, .addr), (3, .addr), (4, .sl), (5, .int .i64), (6, .int .i64), (7, .int .i64)]) (Lo := []) (S := (fun x w => ref11_Sums_l1 K K x.1 x.2.1 x.2.2.1 x.2.2.2.1 x.2.2.2.2.1 x.2.2.2.2.2.1 x.2.2.2.2.2.2.1 w)) (ref11_Sums_l1_ok K K) (subR_of h)
theorem ref11_Sums_l0_ok (K : Nat) (n : Nat) : StmtNOk prog [(0, .sl), (2, .addr), (3, .addr), (4, .sl), (5, .int .i64), (6, .int .i64)] [] [(6, 8), (11, 41)] ((fun n x w => ref11_Sums_l0 K n x.1 x.2.1 x.2.2.1 x.2.2.2.1 x.2.2.2.2.1 x.2.2.2.2.2.1 w) n) (.block 0 (.loop (cd (bodyOf f28) [1, 1, 1, 1, 0, 1, 0, 0]))) :=
    mk_loopN (O := tabL [([1, 1, 1, 1, 0, 1, 0, 0, 1, 0, 0, 1], ref11_Sums_l1_se K)]) (root := (bodyOf f28)) (π := [1, 1, 1, 1, 0, 1, 0, 0]) (id := 0) (Li := [(0, .sl), (2, .addr), (3, .addr), (4, .sl), (5, .int .i64), (6, .int .i64)]) (Lo := []) (S := (fun n x w => ref11_Sums_l0 K n x.1 x.2.1 x.2.2.1 x.2.2.2.1 x.2.2.2.2.1 x.2.2.2.2.2.1 w)) (body := cd (bodyOf f28) [1, 1, 1, 1, 0, 1, 0, 0]) (ref11_Sums_Eok K) (ref11_Sums_Rok K) rfl (Orc.cons (by kernel_rfl) (ref11_Sums_l1_se_ok K [(6, 8), (11, 41)] (by kernel_rfl)) (Orc.nil _ _ _)) (by kernel_rfl) (fun _ _ => by kernel_rfl) (fun _ _ _ => by kernel_rfl) n
noncomputable def ref11_Sums_l0_se (K : Nat) : SE := stmtN [(0, .sl), (2, .addr), (3, .addr), (4, .sl), (5, .int .i64), (6, .int .i64)] [] [(6, 8), (11, 41)] (fun x w => ref11_Sums_l0 K K x.1 x.2.1 x.2.2.1 x.2.2.2.1 x.2.2.2.2.1 x.2.2.2.2.2.1 w)
theorem ref11_Sums_l0_se_ok (K : Nat) (R : Rg) (h : subRB [(6, 8), (11, 41)] R = true) : (ref11_Sums_l0_se K).Ok prog R (.block 0 (.loop (cd (bodyOf f28) [1, 1, 1, 1, 0, 1, 0, 0]))) := stmtN_ok (Li := [(0, .sl), (2, .addr), (3, .addr), (4, .sl), (5, .int .i64), (6, .int .i64)]) (Lo := []) (S := (fun x w => ref11_Sums_l0 K K x.1 x.2.1 x.2.2.1 x.2.2.2.1 x.2.2.2.2.1 x.2.2.2.2.2.1 w)) (ref11_Sums_l0_ok K K) (subR_of h)
theorem ref11_Sums_facts : FunFacts prog 28 f28 (bodyOf f28) [(0, .sl)] [(0, 42)] := ⟨func28, by kernel_rfl, by kernel_rfl, by kernel_rfl, by kernel_rfl, by kernel_rfl⟩
theorem ref11_Sums_calls (K : Nat) (x : TT [(0, .sl)]) (w : World) (y : TR [.agg]) (w2 : World) (h : ref11_Sums K x.1 w = some (y, w2)) : Calls prog 28 (encA [(0, .sl)] x).toArray w (fun e w3 => e = .returned (resV (encR [.agg] y)) ∧ w3 = w2) :=
    mk_fun (O := tabL [([1, 1, 1, 1, 0, 1], ref11_Sums_l0_se K), ([1, 1, 1, 1, 0, 1, 0, 0, 1, 0, 0, 1], ref11_Sums_l1_se K)]) (Lp := [(0, .sl)]) (Rt := [.agg]) (S := (fun x w => ref11_Sums K x.1 w)) (ref11_Sums_Eok K) (ref11_Sums_Rok K) rfl ref11_Sums_facts (Orc.cons (by kernel_rfl) (ref11_Sums_l0_se_ok K [(0, 42)] (by kernel_rfl)) (Orc.cons (by kernel_rfl) (ref11_Sums_l1_se_ok K [(0, 42)] (by kernel_rfl)) (Orc.nil _ _ _))) (fun _ _ => by kernel_rfl) x w y w2 h
noncomputable def ref11_Sums_ce (K : Nat) : CE := funE [(0, .sl)] [.agg] (fun x w => ref11_Sums K x.1 w)
theorem ref11_Sums_ok (K : Nat) : (ref11_Sums_ce K).Ok prog 28 := funE_ok (Rt := [.agg]) (S := (fun x w => ref11_Sums K x.1 w)) ref11_Sums_facts fun x w y w2 h => ref11_Sums_calls K x w y w2 h

noncomputable def ref11_near_E (K : Nat) : List (Nat × CE) := [(28, ref11_Sums_ce K), (29, ref11_Powers_ce K)]
theorem ref11_near_Eok (K : Nat) : Env.Ok prog (tab (ref11_near_E K)) := (Env.cons (ref11_Sums_ok K) (Env.cons (ref11_Powers_ok K) (Env.nil _)))
noncomputable def ref11_near_R (K : Nat) : List (Nat × RE) := [(30, ref11_times_re K)]
theorem ref11_near_Rok (K : Nat) : REnv.Ok prog (tab (ref11_near_R K)) := (REnv.cons (ref11_times_ok K) (REnv.nil _))
noncomputable def ref11_near_s1 (K : Nat) (s5 : Addr) (x11 : Int) (y12 : Int) (w : World) : Option ((Bool × Unit) × World) :=
  (ldI .u8 (s5.add (1 * 1)) w.drew).bind fun v_27 =>
  (ldI .u8 (s5.add (0 * 1)) w.drew).bind fun v_28 =>
  (ref11_times K v_28 x11).bind fun r_29 =>
  if (v_27 == r_29.1) = true then ((ldI .u8 (s5.add (2 * 1)) w.drew).bind fun v_30 =>
  (ldI .u8 (s5.add (0 * 1)) w.drew).bind fun v_31 =>
  (ref11_times K v_31 y12).bind fun r_32 =>
  if (v_30 == r_32.1) = true then ((ldI .u8 (s5.add (3 * 1)) w.drew).bind fun v_33 =>
  (ldI .u8 (s5.add (0 * 1)) w.drew).bind fun v_34 =>
  (ref11_times K x11 y12).bind fun r_35 =>
  (ref11_times K v_34 r_35.1).bind fun r_36 =>
  some (((v_33 == r_36.1), ()), w.drew)) else (some ((false, ()), w.drew))) else (some ((false, ()), w.drew))
noncomputable def ref11_near_l0_b (K : Nat) (rec : Sl → Addr → Int → Sl → Int → World → Option ((Out (Unit) (Sl × Int × Bool × Unit)) × World)) (b0 : Sl) (s5 : Addr) (n7 : Int) (p8 : Sl) (i9 : Int) (w : World) : Option ((Out (Unit) (Sl × Int × Bool × Unit)) × World) :=
  if (decide (i9 < n7)) = true then (bnd (bldS prog 25 0 #[] w) fun s_15 w_16 =>
  bnd (apd prog 25 25 (.slice s_15.a s_15.len s_15.cap) (.slice b0.a b0.len b0.cap) w_16) fun s_17 w_18 =>
  (s_17.a).bind fun p_19 =>
  if (0 : Int) ≤ i9 ∧ i9 < ((s_17.len : Nat) : Int) then ((ldI .u8 (p_19.add ((Int.toNat i9) * 1)) w_18.drew).bind fun v_20 =>
  (ldI .u8 (s5.add (0 * 1)) w_18.drew).bind fun v_21 =>
  (s_17.a).bind fun p_22 =>
  if (0 : Int) ≤ i9 ∧ i9 < ((s_17.len : Nat) : Int) then ((stC (p_22.add ((Int.toNat i9) * 1)) (.int .u8 (bits .xor .u8 v_20 v_21)) w_18.drew).bind fun w_23 =>
  (p8.a).bind fun p_24 =>
  if (0 : Int) ≤ (IntKind.i64.wrap ((IntKind.i64.wrap (n7 - 1)) - i9)) ∧ (IntKind.i64.wrap ((IntKind.i64.wrap (n7 - 1)) - i9)) < ((p8.len : Nat) : Int) then ((ldI .u8 (p_24.add ((Int.toNat (IntKind.i64.wrap ((IntKind.i64.wrap (n7 - 1)) - i9))) * 1)) w_23).bind fun v_25 =>
  (ref11_times K v_25 v_25).bind fun r_26 =>
  bnd (ref11_near_s1 K s5 v_25 r_26.1 w_23) fun y_37 w_38 =>
  if y_37.1 = true then ((ldI .u8 (s5.add (0 * 1)) w_38.drew).bind fun v_39 =>
  some (.ret (s_17, 1, (v_39 != 0), ()), w_38.drew)) else (rec b0 s5 n7 p8 (IntKind.i64.wrap (i9 + 1)) w_38)) else none) else none) else none) else (some (.norm (), w))
noncomputable def ref11_near_l0 (K : Nat) (n : Nat) : Sl → Addr → Int → Sl → Int → World → Option ((Out (Unit) (Sl × Int × Bool × Unit)) × World) := iter (fun _ _ _ _ _ _ => none) (ref11_near_l0_b K) n
noncomputable def ref11_near_l2_b (K : Nat) (rec : Sl → Addr → Int → Sl → Addr → Int → World → Option ((Unit) × World)) (b0 : Sl) (s5 : Addr) (n7 : Int) (p8 : Sl) (inverse13 : Addr) (i14 : Int) (w : World) : Option ((Unit) × World) :=
  if (decide (i14 < 255)) = true then ((p8.a).bind fun p_45 =>
  if (0 : Int) ≤ i14 ∧ i14 < ((p8.len : Nat) : Int) then ((p8.a).bind fun p_46 =>
  if (0 : Int) ≤ (Int.tmod (IntKind.i64.wrap (255 - i14)) 255) ∧ (Int.tmod (IntKind.i64.wrap (255 - i14)) 255) < ((p8.len : Nat) : Int) then ((ldI .u8 (p_45.add ((Int.toNat i14) * 1)) w.drew).bind fun v_47 =>
  (ldI .u8 (p_46.add ((Int.toNat (Int.tmod (IntKind.i64.wrap (255 - i14)) 255)) * 1)) w.drew).bind fun v_48 =>
  if (0 : Int) ≤ v_47 ∧ v_47 < ((256 : Nat) : Int) then ((stC (inverse13.add ((Int.toNat v_47) * 1)) (.int .u8 v_48) w.drew).bind fun w_49 =>
  rec b0 s5 n7 p8 inverse13 (IntKind.i64.wrap (i14 + 1)) w_49) else none) else none) else none) else (some ((), w))
noncomputable def ref11_near_l2 (K : Nat) (n : Nat) : Sl → Addr → Int → Sl → Addr → Int → World → Option ((Unit) × World) := iter (fun _ _ _ _ _ _ _ => none) (ref11_near_l2_b K) n
noncomputable def ref11_near_s5 (K : Nat) (s5 : Addr) (x16 : Int) (y18 : Int) (w19 : Int) (v20 : Int) (w : World) : Option ((Bool × Unit) × World) :=
  (ldI .u8 (s5.add (2 * 1)) w.drew).bind fun v_62 =>
  (ref11_times K x16 x16).bind fun r_63 =>
  (ref11_times K v20 r_63.1).bind fun r_64 =>
  (ref11_times K y18 y18).bind fun r_65 =>
  (ref11_times K w19 r_65.1).bind fun r_66 =>
  if (v_62 != (bits .xor .u8 r_64.1 r_66.1)) = true then (some ((true, ()), w.drew)) else ((ldI .u8 (s5.add (3 * 1)) w.drew).bind fun v_67 =>
  (ref11_times K x16 x16).bind fun r_68 =>
  (ref11_times K x16 r_68.1).bind fun r_69 =>
  (ref11_times K v20 r_69.1).bind fun r_70 =>
  (ref11_times K y18 y18).bind fun r_71 =>
  (ref11_times K y18 r_71.1).bind fun r_72 =>
  (ref11_times K w19 r_72.1).bind fun r_73 =>
  if (v_67 != (bits .xor .u8 r_70.1 r_73.1)) = true then (some ((true, ()), w.drew)) else (if (v20 == 0) = true then (some ((true, ()), w.drew)) else (some (((w19 == 0), ()), w.drew))))
noncomputable def ref11_near_l4_b (K : Nat) (rec : Sl → Addr → Int → Sl → Addr → Int → Int → Int → World → Option ((Out (Unit) (Sl × Int × Bool × Unit)) × World)) (b0 : Sl) (s5 : Addr) (n7 : Int) (p8 : Sl) (inverse13 : Addr) (i15 : Int) (x16 : Int) (k17 : Int) (w : World) : Option ((Out (Unit) (Sl × Int × Bool × Unit)) × World) :=
  if (decide (k17 < n7)) = true then ((p8.a).bind fun p_54 =>
  if (0 : Int) ≤ (IntKind.i64.wrap ((IntKind.i64.wrap (n7 - 1)) - k17)) ∧ (IntKind.i64.wrap ((IntKind.i64.wrap (n7 - 1)) - k17)) < ((p8.len : Nat) : Int) then ((ldI .u8 (p_54.add ((Int.toNat (IntKind.i64.wrap ((IntKind.i64.wrap (n7 - 1)) - k17))) * 1)) w).bind fun v_55 =>
  if (0 : Int) ≤ (bits .xor .u8 x16 v_55) ∧ (bits .xor .u8 x16 v_55) < ((256 : Nat) : Int) then ((ldI .u8 (s5.add (1 * 1)) w.drew).bind fun v_56 =>
  (ldI .u8 (s5.add (0 * 1)) w.drew).bind fun v_57 =>
  (ref11_times K v_57 x16).bind fun r_58 =>
  (ldI .u8 (inverse13.add ((Int.toNat (bits .xor .u8 x16 v_55)) * 1)) w.drew).bind fun v_59 =>
  (ref11_times K (bits .xor .u8 v_56 r_58.1) v_59).bind fun r_60 =>
  (ldI .u8 (s5.add (0 * 1)) w.drew).bind fun v_61 =>
  bnd (ref11_near_s5 K s5 x16 v_55 r_60.1 (bits .xor .u8 v_61 r_60.1) w.drew) fun y_74 w_75 =>
  if y_74.1 = true then (rec b0 s5 n7 p8 inverse13 i15 x16 (IntKind.i64.wrap (k17 + 1)) w_75) else (bnd (bldS prog 25 0 #[] w_75) fun s_76 w_77 =>
  bnd (apd prog 25 25 (.slice s_76.a s_76.len s_76.cap) (.slice b0.a b0.len b0.cap) w_77) fun s_78 w_79 =>
  (s_78.a).bind fun p_80 =>
  if (0 : Int) ≤ i15 ∧ i15 < ((s_78.len : Nat) : Int) then ((ldI .u8 (p_80.add ((Int.toNat i15) * 1)) w_79).bind fun v_81 =>
  (s_78.a).bind fun p_82 =>
  if (0 : Int) ≤ i15 ∧ i15 < ((s_78.len : Nat) : Int) then ((stC (p_82.add ((Int.toNat i15) * 1)) (.int .u8 (bits .xor .u8 v_81 (bits .xor .u8 v_61 r_60.1))) w_79).bind fun w_83 =>
  (s_78.a).bind fun p_84 =>
  if (0 : Int) ≤ k17 ∧ k17 < ((s_78.len : Nat) : Int) then ((ldI .u8 (p_84.add ((Int.toNat k17) * 1)) w_83).bind fun v_85 =>
  (s_78.a).bind fun p_86 =>
  if (0 : Int) ≤ k17 ∧ k17 < ((s_78.len : Nat) : Int) then ((stC (p_86.add ((Int.toNat k17) * 1)) (.int .u8 (bits .xor .u8 v_85 r_60.1)) w_83).bind fun w_87 =>
  some (.ret (s_78, 2, true, ()), w_87)) else none) else none) else none) else none)) else none) else none) else (some (.norm (), w))
noncomputable def ref11_near_l4 (K : Nat) (n : Nat) : Sl → Addr → Int → Sl → Addr → Int → Int → Int → World → Option ((Out (Unit) (Sl × Int × Bool × Unit)) × World) := iter (fun _ _ _ _ _ _ _ _ _ => none) (ref11_near_l4_b K) n
noncomputable def ref11_near_l3_b (K : Nat) (rec : Sl → Addr → Int → Sl → Addr → Int → World → Option ((Out (Unit) (Sl × Int × Bool × Unit)) × World)) (b0 : Sl) (s5 : Addr) (n7 : Int) (p8 : Sl) (inverse13 : Addr) (i15 : Int) (w : World) : Option ((Out (Unit) (Sl × Int × Bool × Unit)) × World) :=
  if (decide (i15 < n7)) = true then ((p8.a).bind fun p_52 =>
  if (0 : Int) ≤ (IntKind.i64.wrap ((IntKind.i64.wrap (n7 - 1)) - i15)) ∧ (IntKind.i64.wrap ((IntKind.i64.wrap (n7 - 1)) - i15)) < ((p8.len : Nat) : Int) then ((ldI .u8 (p_52.add ((Int.toNat (IntKind.i64.wrap ((IntKind.i64.wrap (n7 - 1)) - i15))) * 1)) w).bind fun v_53 =>
  bnd (ref11_near_l4 K K b0 s5 n7 p8 inverse13 i15 v_53 (IntKind.i64.wrap (i15 + 1)) w) fun y_88 w_89 =>
  (match y_88 with
  | .norm z_90n => (rec b0 s5 n7 p8 inverse13 (IntKind.i64.wrap (i15 + 1)) w_89)
  | .ret z_90r => (some (.ret (z_90r.1, z_90r.2.1, z_90r.2.2.1, ()), w_89)))) else none) else (some (.norm (), w))
noncomputable def ref11_near_l3 (K : Nat) (n : Nat) : Sl → Addr → Int → Sl → Addr → Int → World → Option ((Out (Unit) (Sl × Int × Bool × Unit)) × World) := iter (fun _ _ _ _ _ _ _ => none) (ref11_near_l3_b K) n
/-- coffer/cofferref11.near -/
noncomputable def ref11_near (K : Nat) (b0 : Sl) (w : World) : Option ((Sl × Int × Bool × Unit) × World) :=
  bnd (ref11_Sums K b0 w) fun r_1 w_2 =>
  bnd (newB z60 60 w_2) fun s_3 w_4 =>
  if (r_1.1).size = 4 then ((stA s_3 r_1.1 w_4).bind fun w_5 =>
  (prog.built 60 []).bind fun cs_6 =>
  bnd (newB z60 60 w_5) fun zero_7 w_8 =>
  if (cs_6).size = 4 then ((stA zero_7 cs_6 w_8).bind fun w_9 =>
  (ldA 4 s_3 w_9).bind fun v_10 =>
  (ldA 4 zero_7 w_9).bind fun v_11 =>
  (eqA prog 60 v_10 v_11).bind fun b_12 =>
  if b_12 = true then (some ((b0, 0, true, ()), w_9)) else (bnd (ref11_Powers K 255 w_9) fun r_13 w_14 =>
  bnd (ref11_near_l0 K K b0 s_3 ((b0.len : Nat) : Int) r_13.1 0 w_14) fun y_40 w_41 =>
  (match y_40 with
  | .norm z_42n => (bnd (newB z64 64 w_41) fun inverse_43 w_44 =>
  bnd (ref11_near_l2 K K b0 s_3 ((b0.len : Nat) : Int) r_13.1 inverse_43 0 w_44) fun y_50 w_51 =>
  bnd (ref11_near_l3 K K b0 s_3 ((b0.len : Nat) : Int) r_13.1 inverse_43 0 w_51) fun y_91 w_92 =>
  (match y_91 with
  | .norm z_93n => (some ((⟨none, 0, 0⟩, 0, false, ()), w_92))
  | .ret z_93r => (some ((z_93r.1, z_93r.2.1, z_93r.2.2.1, ()), w_92))))
  | .ret z_42r => (some ((z_42r.1, z_42r.2.1, z_42r.2.2.1, ()), w_41))))) else none) else none
theorem ref11_near_s1_ok (K : Nat) : StmtNOk prog [(5, .addr), (11, .int .u8), (12, .int .u8)] [(86, .bool)] [(60, 87)] (fun x w => ref11_near_s1 K x.1 x.2.1 x.2.2.1 w) (cd (bodyOf f21) [1, 1, 1, 1, 1, 1, 0, 1, 0, 0, 1, 0, 0, 1, 1, 1, 1, 0]) :=
    mk_stmtN (O := tabL []) (root := (bodyOf f21)) (π := [1, 1, 1, 1, 1, 1, 0, 1, 0, 0, 1, 0, 0, 1, 1, 1, 1, 0]) (Li := [(5, .addr), (11, .int .u8), (12, .int .u8)]) (Lo := [(86, .bool)]) (S := (fun x w => ref11_near_s1 K x.1 x.2.1 x.2.2.1 w)) (ref11_near_Eok K) (ref11_near_Rok K) rfl (Orc.nil _ _ _) (by kernel_rfl) (fun _ _ => by kernel_rfl)
noncomputable def ref11_near_s1_se (K : Nat) : SE := stmtN [(5, .addr), (11, .int .u8), (12, .int .u8)] [(86, .bool)] [(60, 87)] (fun x w => ref11_near_s1 K x.1 x.2.1 x.2.2.1 w)
theorem ref11_near_s1_se_ok (K : Nat) (R : Rg) (h : subRB [(60, 87)] R = true) : (ref11_near_s1_se K).Ok prog R (cd (bodyOf f21) [1, 1, 1, 1, 1, 1, 0, 1, 0, 0, 1, 0, 0, 1, 1, 1, 1, 0]) := stmtN_ok (Li := [(5, .addr), (11, .int .u8), (12, .int .u8)]) (Lo := [(86, .bool)]) (S := (fun x w => ref11_near_s1 K x.1 x.2.1 x.2.2.1 w)) (ref11_near_s1_ok K) (subR_of h)
theorem ref11_near_l0_ok (K : Nat) (n : Nat) : StmtOk prog [(0, .sl), (5, .addr), (7, .int .i64), (8, .sl), (9, .int .i64)] [] [(2, .sl), (3, .int .i64), (4, .bool)] [(2, 5), (9, 13), (32, 91)] ((fun n x w => ref11_near_l0 K n x.1 x.2.1 x.2.2.1 x.2.2.2.1 x.2.2.2.2.1 w) n) (.block 0 (.loop (cd (bodyOf f21) [1, 1, 1, 1, 1, 1, 0, 1, 0, 0]))) :=
    mk_loop (O := tabL [([1, 1, 1, 1, 1, 1, 0, 1, 0, 0, 1, 0, 0, 1, 1, 1, 1, 0], ref11_near_s1_se K)]) (root := (bodyOf f21)) (π := [1, 1, 1, 1, 1, 1, 0, 1, 0, 0]) (id := 0) (Li := [(0, .sl), (5, .addr), (7, .int .i64), (8, .sl), (9, .int .i64)]) (Lo := []) (Lr := [(2, .sl), (3, .int .i64), (4, .bool)]) (S := (fun n x w => ref11_near_l0 K n x.1 x.2.1 x.2.2.1 x.2.2.2.1 x.2.2.2.2.1 w)) (body := cd (bodyOf f21) [1, 1, 1, 1, 1, 1, 0, 1, 0, 0]) (ref11_near_Eok K) (ref11_near_Rok K) rfl (Orc.cons (by kernel_rfl) (ref11_near_s1_se_ok K [(2, 5), (9, 13), (32, 91)] (by kernel_rfl)) (Orc.nil _ _ _)) (by kernel_rfl) (fun _ _ => by kernel_rfl) (fun _ _ _ => by kernel_rfl) n
noncomputable def ref11_near_l0_se (K : Nat) : SE := stmt [(0, .sl), (5, .addr), (7, .int .i64), (8, .sl), (9, .int .i64)] [] [(2, .sl), (3, .int .i64), (4, .bool)] [(2, 5), (9, 13), (32, 91)] (fun x w => ref11_near_l0 K K x.1 x.2.1 x.2.2.1 x.2.2.2.1 x.2.2.2.2.1 w)
theorem ref11_near_l0_se_ok (K : Nat) (R : Rg) (h : subRB [(2, 5), (9, 13), (32, 91)] R = true) : (ref11_near_l0_se K).Ok prog R (.block 0 (.loop (cd (bodyOf f21) [1, 1, 1, 1, 1, 1, 0, 1, 0, 0]))) := stmt_ok (Li := [(0, .sl), (5, .addr), (7, .int .i64), (8, .sl), (9, .int .i64)]) (Lo := []) (Lr := [(2, .sl), (3, .int .i64), (4, .bool)]) (S := (fun x w => ref11_near_l0 K K x.1 x.2.1 x.2.2.1 x.2.2.2.1 x.2.2.2.2.1 w)) (ref11_near_l0_ok K K) (subR_of h)
theorem ref11_near_l2_ok (K : Nat) (n : Nat) : StmtNOk prog [(0, .sl), (5, .addr), (7, .int .i64), (8, .sl), (13, .addr), (14, .int .i64)] [] [(14, 15), (91, 106)] ((fun n x w => ref11_near_l2 K n x.1 x.2.1 x.2.2.1 x.2.2.2.1 x.2.2.2.2.1 x.2.2.2.2.2.1 w) n) (.block 2 (.loop (cd (bodyOf f21) [1, 1, 1, 1, 1, 1, 1, 1, 0, 1, 0, 0]))) :=
    mk_loopN (O := tabL []) (root := (bodyOf f21)) (π := [1, 1, 1, 1, 1, 1, 1, 1, 0, 1, 0, 0]) (id := 2) (Li := [(0, .sl), (5, .addr), (7, .int .i64), (8, .sl), (13, .addr), (14, .int .i64)]) (Lo := []) (S := (fun n x w => ref11_near_l2 K n x.1 x.2.1 x.2.2.1 x.2.2.2.1 x.2.2.2.2.1 x.2.2.2.2.2.1 w)) (body := cd (bodyOf f21) [1, 1, 1, 1, 1, 1, 1, 1, 0, 1, 0, 0]) (ref11_near_Eok K) (ref11_near_Rok K) rfl (Orc.nil _ _ _) (by kernel_rfl) (fun _ _ => by kernel_rfl) (fun _ _ _ => by kernel_rfl) n
noncomputable def ref11_near_l2_se (K : Nat) : SE := stmtN [(0, .sl), (5, .addr), (7, .int .i64), (8, .sl), (13, .addr), (14, .int .i64)] [] [(14, 15), (91, 106)] (fun x w => ref11_near_l2 K K x.1 x.2.1 x.2.2.1 x.2.2.2.1 x.2.2.2.2.1 x.2.2.2.2.2.1 w)
theorem ref11_near_l2_se_ok (K : Nat) (R : Rg) (h : subRB [(14, 15), (91, 106)] R = true) : (ref11_near_l2_se K).Ok prog R (.block 2 (.loop (cd (bodyOf f21) [1, 1, 1, 1, 1, 1, 1, 1, 0, 1, 0, 0]))) := stmtN_ok (Li := [(0, .sl), (5, .addr), (7, .int .i64), (8, .sl), (13, .addr), (14, .int .i64)]) (Lo := []) (S := (fun x w => ref11_near_l2 K K x.1 x.2.1 x.2.2.1 x.2.2.2.1 x.2.2.2.2.1 x.2.2.2.2.2.1 w)) (ref11_near_l2_ok K K) (subR_of h)
theorem ref11_near_s5_ok (K : Nat) : StmtNOk prog [(5, .addr), (16, .int .u8), (18, .int .u8), (19, .int .u8), (20, .int .u8)] [(190, .bool)] [(149, 191)] (fun x w => ref11_near_s5 K x.1 x.2.1 x.2.2.1 x.2.2.2.1 x.2.2.2.2.1 w) (cd (bodyOf f21) [1, 1, 1, 1, 1, 1, 1, 1, 1, 0, 1, 0, 0, 1, 0, 0, 1, 1, 0, 0, 1, 0, 0, 1, 1, 1, 0, 0]) :=
    mk_stmtN (O := tabL []) (root := (bodyOf f21)) (π := [1, 1, 1, 1, 1, 1, 1, 1, 1, 0, 1, 0, 0, 1, 0, 0, 1, 1, 0, 0, 1, 0, 0, 1, 1, 1, 0, 0]) (Li := [(5, .addr), (16, .int .u8), (18, .int .u8), (19, .int .u8), (20, .int .u8)]) (Lo := [(190, .bool)]) (S := (fun x w => ref11_near_s5 K x.1 x.2.1 x.2.2.1 x.2.2.2.1 x.2.2.2.2.1 w)) (ref11_near_Eok K) (ref11_near_Rok K) rfl (Orc.nil _ _ _) (by kernel_rfl) (fun _ _ => by kernel_rfl)
noncomputable def ref11_near_s5_se (K : Nat) : SE := stmtN [(5, .addr), (16, .int .u8), (18, .int .u8), (19, .int .u8), (20, .int .u8)] [(190, .bool)] [(149, 191)] (fun x w => ref11_near_s5 K x.1 x.2.1 x.2.2.1 x.2.2.2.1 x.2.2.2.2.1 w)
theorem ref11_near_s5_se_ok (K : Nat) (R : Rg) (h : subRB [(149, 191)] R = true) : (ref11_near_s5_se K).Ok prog R (cd (bodyOf f21) [1, 1, 1, 1, 1, 1, 1, 1, 1, 0, 1, 0, 0, 1, 0, 0, 1, 1, 0, 0, 1, 0, 0, 1, 1, 1, 0, 0]) := stmtN_ok (Li := [(5, .addr), (16, .int .u8), (18, .int .u8), (19, .int .u8), (20, .int .u8)]) (Lo := [(190, .bool)]) (S := (fun x w => ref11_near_s5 K x.1 x.2.1 x.2.2.1 x.2.2.2.1 x.2.2.2.2.1 w)) (ref11_near_s5_ok K) (subR_of h)
theorem ref11_near_l4_ok (K : Nat) (n : Nat) : StmtOk prog [(0, .sl), (5, .addr), (7, .int .i64), (8, .sl), (13, .addr), (15, .int .i64), (16, .int .u8), (17, .int .i64)] [] [(2, .sl), (3, .int .i64), (4, .bool)] [(2, 5), (17, 22), (120, 213)] ((fun n x w => ref11_near_l4 K n x.1 x.2.1 x.2.2.1 x.2.2.2.1 x.2.2.2.2.1 x.2.2.2.2.2.1 x.2.2.2.2.2.2.1 x.2.2.2.2.2.2.2.1 w) n) (.block 6 (.loop (cd (bodyOf f21) [1, 1, 1, 1, 1, 1, 1, 1, 1, 0, 1, 0, 0, 1, 0, 0, 1, 1, 0, 0]))) :=
    mk_loop (O := tabL [([1, 1, 1, 1, 1, 1, 1, 1, 1, 0, 1, 0, 0, 1, 0, 0, 1, 1, 0, 0, 1, 0, 0, 1, 1, 1, 0, 0], ref11_near_s5_se K)]) (root := (bodyOf f21)) (π := [1, 1, 1, 1, 1, 1, 1, 1, 1, 0, 1, 0, 0, 1, 0, 0, 1, 1, 0, 0]) (id := 6) (Li := [(0, .sl), (5, .addr), (7, .int .i64), (8, .sl), (13, .addr), (15, .int .i64), (16, .int .u8), (17, .int .i64)]) (Lo := []) (Lr := [(2, .sl), (3, .int .i64), (4, .bool)]) (S := (fun n x w => ref11_near_l4 K n x.1 x.2.1 x.2.2.1 x.2.2.2.1 x.2.2.2.2.1 x.2.2.2.2.2.1 x.2.2.2.2.2.2.1 x.2.2.2.2.2.2.2.1 w)) (body := cd (bodyOf f21) [1, 1, 1, 1, 1, 1, 1, 1, 1, 0, 1, 0, 0, 1, 0, 0, 1, 1, 0, 0]) (ref11_near_Eok K) (ref11_near_Rok K) rfl (Orc.cons (by kernel_rfl) (ref11_near_s5_se_ok K [(2, 5), (17, 22), (120, 213)] (by kernel_rfl)) (Orc.nil _ _ _)) (by kernel_rfl) (fun _ _ => by kernel_rfl) (fun _ _ _ => by kernel_rfl) n
noncomputable def ref11_near_l4_se (K : Nat) : SE := stmt [(0, .sl), (5, .addr), (7, .int .i64), (8, .sl), (13, .addr), (15, .int .i64), (16, .int .u8), (17, .int .i64)] [] [(2, .sl), (3, .int .i64), (4, .bool)] [(2, 5), (17, 22), (120, 213)] (fun x w => ref11_near_l4 K K x.1 x.2.1 x.2.2.1 x.2.2.2.1 x.2.2.2.2.1 x.2.2.2.2.2.1 x.2.2.2.2.2.2.1 x.2.2.2.2.2.2.2.1 w)
theorem ref11_near_l4_se_ok (K : Nat) (R : Rg) (h : subRB [(2, 5), (17, 22), (120, 213)] R = true) : (ref11_near_l4_se K).Ok prog R (.block 6 (.loop (cd (bodyOf f21) [1, 1, 1, 1, 1, 1, 1, 1, 1, 0, 1, 0, 0, 1, 0, 0, 1, 1, 0, 0]))) := stmt_ok (Li := [(0, .sl), (5, .addr), (7, .int .i64), (8, .sl), (13, .addr), (15, .int .i64), (16, .int .u8), (17, .int .i64)]) (Lo := []) (Lr := [(2, .sl), (3, .int .i64), (4, .bool)]) (S := (fun x w => ref11_near_l4 K K x.1 x.2.1 x.2.2.1 x.2.2.2.1 x.2.2.2.2.1 x.2.2.2.2.2.1 x.2.2.2.2.2.2.1 x.2.2.2.2.2.2.2.1 w)) (ref11_near_l4_ok K K) (subR_of h)
theorem ref11_near_l3_ok (K : Nat) (n : Nat) : StmtOk prog [(0, .sl), (5, .addr), (7, .int .i64), (8, .sl), (13, .addr), (15, .int .i64)] [] [(2, .sl), (3, .int .i64), (4, .bool)] [(2, 5), (15, 22), (106, 213)] ((fun n x w => ref11_near_l3 K n x.1 x.2.1 x.2.2.1 x.2.2.2.1 x.2.2.2.2.1 x.2.2.2.2.2.1 w) n) (.block 4 (.loop (cd (bodyOf f21) [1, 1, 1, 1, 1, 1, 1, 1, 1, 0, 1, 0, 0]))) :=
    mk_loop (O := tabL [([1, 1, 1, 1, 1, 1, 1, 1, 1, 0, 1, 0, 0, 1, 0, 0, 1, 1], ref11_near_l4_se K), ([1, 1, 1, 1, 1, 1, 1, 1, 1, 0, 1, 0, 0, 1, 0, 0, 1, 1, 0, 0, 1, 0, 0, 1, 1, 1, 0, 0], ref11_near_s5_se K)]) (root := (bodyOf f21)) (π := [1, 1, 1, 1, 1, 1, 1, 1, 1, 0, 1, 0, 0]) (id := 4) (Li := [(0, .sl), (5, .addr), (7, .int .i64), (8, .sl), (13, .addr), (15, .int .i64)]) (Lo := []) (Lr := [(2, .sl), (3, .int .i64), (4, .bool)]) (S := (fun n x w => ref11_near_l3 K n x.1 x.2.1 x.2.2.1 x.2.2.2.1 x.2.2.2.2.1 x.2.2.2.2.2.1 w)) (body := cd (bodyOf f21) [1, 1, 1, 1, 1, 1, 1, 1, 1, 0, 1, 0, 0]) (ref11_near_Eok K) (ref11_near_Rok K) rfl (Orc.cons (by kernel_rfl) (ref11_near_l4_se_ok K [(2, 5), (15, 22), (106, 213)] (by kernel_rfl)) (Orc.cons (by kernel_rfl) (ref11_near_s5_se_ok K [(2, 5), (15, 22), (106, 213)] (by kernel_rfl)) (Orc.nil _ _ _))) (by kernel_rfl) (fun _ _ => by kernel_rfl) (fun _ _ _ => by kernel_rfl) n
noncomputable def ref11_near_l3_se (K : Nat) : SE := stmt [(0, .sl), (5, .addr), (7, .int .i64), (8, .sl), (13, .addr), (15, .int .i64)] [] [(2, .sl), (3, .int .i64), (4, .bool)] [(2, 5), (15, 22), (106, 213)] (fun x w => ref11_near_l3 K K x.1 x.2.1 x.2.2.1 x.2.2.2.1 x.2.2.2.2.1 x.2.2.2.2.2.1 w)
theorem ref11_near_l3_se_ok (K : Nat) (R : Rg) (h : subRB [(2, 5), (15, 22), (106, 213)] R = true) : (ref11_near_l3_se K).Ok prog R (.block 4 (.loop (cd (bodyOf f21) [1, 1, 1, 1, 1, 1, 1, 1, 1, 0, 1, 0, 0]))) := stmt_ok (Li := [(0, .sl), (5, .addr), (7, .int .i64), (8, .sl), (13, .addr), (15, .int .i64)]) (Lo := []) (Lr := [(2, .sl), (3, .int .i64), (4, .bool)]) (S := (fun x w => ref11_near_l3 K K x.1 x.2.1 x.2.2.1 x.2.2.2.1 x.2.2.2.2.1 x.2.2.2.2.2.1 w)) (ref11_near_l3_ok K K) (subR_of h)
theorem ref11_near_facts : FunFacts prog 21 f21 (bodyOf f21) [(0, .sl)] [(0, 213)] := ⟨func21, by kernel_rfl, by kernel_rfl, by kernel_rfl, by kernel_rfl, by kernel_rfl⟩
theorem ref11_near_calls (K : Nat) (x : TT [(0, .sl)]) (w : World) (y : TR [.sl, .int .i64, .bool]) (w2 : World) (h : ref11_near K x.1 w = some (y, w2)) : Calls prog 21 (encA [(0, .sl)] x).toArray w (fun e w3 => e = .returned (resV (encR [.sl, .int .i64, .bool] y)) ∧ w3 = w2) :=
    mk_fun (O := tabL [([1, 1, 1, 1, 1, 1, 0, 1], ref11_near_l0_se K), ([1, 1, 1, 1, 1, 1, 0, 1, 0, 0, 1, 0, 0, 1, 1, 1, 1, 0], ref11_near_s1_se K), ([1, 1, 1, 1, 1, 1, 1, 1, 0, 1], ref11_near_l2_se K), ([1, 1, 1, 1, 1, 1, 1, 1, 1, 0, 1], ref11_near_l3_se K), ([1, 1, 1, 1, 1, 1, 1, 1, 1, 0, 1, 0, 0, 1, 0, 0, 1, 1], ref11_near_l4_se K), ([1, 1, 1, 1, 1, 1, 1, 1, 1, 0, 1, 0, 0, 1, 0, 0, 1, 1, 0, 0, 1, 0, 0, 1, 1, 1, 0, 0], ref11_near_s5_se K)]) (Lp := [(0, .sl)]) (Rt := [.sl, .int .i64, .bool]) (S := (fun x w => ref11_near K x.1 w)) (ref11_near_Eok K) (ref11_near_Rok K) rfl ref11_near_facts (Orc.cons (by kernel_rfl) (ref11_near_l0_se_ok K [(0, 213)] (by kernel_rfl)) (Orc.cons (by kernel_rfl) (ref11_near_s1_se_ok K [(0, 213)] (by kernel_rfl)) (Orc.cons (by kernel_rfl) (ref11_near_l2_se_ok K [(0, 213)] (by kernel_rfl)) (Orc.cons (by kernel_rfl) (ref11_near_l3_se_ok K [(0, 213)] (by kernel_rfl)) (Orc.cons (by kernel_rfl) (ref11_near_l4_se_ok K [(0, 213)] (by kernel_rfl)) (Orc.cons (by kernel_rfl) (ref11_near_s5_se_ok K [(0, 213)] (by kernel_rfl)) (Orc.nil _ _ _))))))) (fun _ _ => by kernel_rfl) x w y w2 h
noncomputable def ref11_near_ce (K : Nat) : CE := funE [(0, .sl)] [.sl, .int .i64, .bool] (fun x w => ref11_near K x.1 w)
theorem ref11_near_ok (K : Nat) : (ref11_near_ce K).Ok prog 21 := funE_ok (Rt := [.sl, .int .i64, .bool]) (S := (fun x w => ref11_near K x.1 w)) ref11_near_facts fun x w y w2 h => ref11_near_calls K x w y w2 h

end Go.Sh
