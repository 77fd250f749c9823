/- Texts of this claim, put together: Sh0, Sh1 -/
import Derived.Test.YteomkfcfhlljkaaDoorAllFwocfjfh
import Derived.Test.YteomkfcfhlljkaaDoorProg
/- What functions of the program do, as Lean functions; that the machine does just that. Printed by shal.py, a program of this claim's writer. -/
set_option maxRecDepth 100000
set_option linter.unusedVariables false
namespace Go.Sh
open Go.Fw Go.Proofs.Tryd
def z4 : Array Value := ([.bool false] : List Value).toArray
def z138 : Array Value := (List.replicate 3 (.int .i64 0) ++ [.nilFunc] : List Value).toArray
def z150 : Array Value := Array.replicate 8 (.int .u64 0)
def z153 : Array Value := Array.replicate 4 (.int .u8 0)
def z174 : Array Value := Array.replicate 64 (.int .u32 0)
def z175 : Array Value := Array.replicate 80 (.int .u64 0)
def z176 : Array Value := Array.replicate 8 (.int .u32 0)
def z180 : Array Value := (List.replicate 3 (.int .i64 0) ++ [.nilFunc] ++ [.int .i64 0] ++ List.replicate 9 (.int .u64 0) ++ List.replicate 128 (.int .u8 0) : List Value).toArray
def z188 : Array Value := Array.replicate 256 (.int .u8 0)
def str0 : ByteArray := ⟨#[]⟩
def str1 : ByteArray := ⟨#[98, 100, 102, 103, 104, 106, 107, 108, 109, 110, 112, 114, 115, 116, 118, 122]⟩
def str2 : ByteArray := ⟨#[97, 105, 111, 117]⟩
def str3 : ByteArray := ⟨#[32]⟩
def str4 : ByteArray := ⟨#[115, 112, 111, 105, 108, 116]⟩
def str5 : ByteArray := ⟨#[109, 111, 114, 101]⟩
def str6 : ByteArray := ⟨#[109, 111, 115, 116]⟩
noncomputable def law11_cut_R : List (Nat × RE) := []
theorem law11_cut_Rok : REnv.Ok prog (tab (law11_cut_R)) := (REnv.nil _)
/-- coffer/cofferlaw11.cut -/
noncomputable def law11_cut (b0 : Sl) (most1 : Int) : Option (Sl × Unit) :=
  if (decide (((b0.len : Nat) : Int) > most1)) = true then (if (0 : Int) ≤ most1 ∧ most1 ≤ ((b0.cap : Nat) : Int) then (some (⟨(sla b0.a 0 b0.cap 1), ((Int.toNat (most1)) - 0), (b0.cap - 0)⟩, ())) else none) else (some (b0, ()))
theorem law11_cut_facts : FunFacts prog 12 f12 (bodyOf f12) [(0, .sl), (1, .int .i64)] [(0, 13)] := ⟨func12, by kernel_rfl, by kernel_rfl, by kernel_rfl, by kernel_rfl, by kernel_rfl⟩
theorem law11_cut_calls (x : TT [(0, .sl), (1, .int .i64)]) (w : World) (y : TR [.sl]) (h : law11_cut x.1 x.2.1 = some y) : Calls prog 12 (encA [(0, .sl), (1, .int .i64)] x).toArray w (fun e w3 => e = .returned (resV (encR [.sl] y)) ∧ w3 = w) :=
    mk_funQ (O := tabL []) (Lp := [(0, .sl), (1, .int .i64)]) (Rt := [.sl]) (S := (fun x w => law11_cut x.1 x.2.1)) (law11_cut_Rok) law11_cut_facts (OrcQ.nil _ _ _) (fun _ _ => by kernel_rfl) x w y h
noncomputable def law11_cut_re : RE := funR [(0, .sl), (1, .int .i64)] [.sl] (fun x w => law11_cut x.1 x.2.1)
theorem law11_cut_ok : (law11_cut_re).Ok prog 12 := funR_ok (Rt := [.sl]) (S := (fun x w => law11_cut x.1 x.2.1)) law11_cut_facts fun x w y h => law11_cut_calls x w y h

noncomputable def ref11_Random_R : List (Nat × RE) := []
theorem ref11_Random_Rok : REnv.Ok prog (tab (ref11_Random_R)) := (REnv.nil _)
noncomputable def ref11_Random_s0 (need0 : Int) (size1 : Int) : Option (Out (Bool × Unit) (Int × Unit)) :=
  if (decide (need0 < 1)) = true then (some (.norm (true, ()))) else (if (decide (need0 > 16)) = true then (some (.norm (true, ()))) else (if (decide (size1 < 1)) = true then (some (.norm (true, ()))) else (some (.norm ((decide (size1 > 64)), ())))))
/-- coffer/cofferref11.Random -/
noncomputable def ref11_Random (need0 : Int) (size1 : Int) : Option (Int × Unit) :=
  (ref11_Random_s0 need0 size1).bind fun y_1 =>
  (match y_1 with
  | .norm z_2n => (if z_2n.1 = true then (some (0, ())) else (some ((IntKind.i64.wrap ((IntKind.i64.wrap (need0 - 1)) * (IntKind.i64.wrap (size1 + 4)))), ())))
  | .ret z_2r => (some (z_2r.1, ())))
theorem ref11_Random_s0_ok : StmtQOk prog [(0, .int .i64), (1, .int .i64)] [(18, .bool)] [(4, .int .i64)] [(5, 19)] (fun x w => ref11_Random_s0 x.1 x.2.1) (cd (bodyOf f18) [1, 0, 0]) :=
    mk_stmtQ (O := tabL []) (root := (bodyOf f18)) (π := [1, 0, 0]) (Li := [(0, .int .i64), (1, .int .i64)]) (Lo := [(18, .bool)]) (Lr := [(4, .int .i64)]) (S := (fun x w => ref11_Random_s0 x.1 x.2.1)) (ref11_Random_Rok) (OrcQ.nil _ _ _) (by kernel_rfl) (fun _ _ => by kernel_rfl)
noncomputable def ref11_Random_s0_se : SQ := stmtQ [(0, .int .i64), (1, .int .i64)] [(18, .bool)] [(4, .int .i64)] [(5, 19)] (fun x w => ref11_Random_s0 x.1 x.2.1)
theorem ref11_Random_s0_se_ok (R : Rg) (h : subRB [(5, 19)] R = true) : (ref11_Random_s0_se).Ok prog R (cd (bodyOf f18) [1, 0, 0]) := stmtQ_ok (Li := [(0, .int .i64), (1, .int .i64)]) (Lo := [(18, .bool)]) (Lr := [(4, .int .i64)]) (S := (fun x w => ref11_Random_s0 x.1 x.2.1)) (ref11_Random_s0_ok) (subR_of h)
theorem ref11_Random_facts : FunFacts prog 18 f18 (bodyOf f18) [(0, .int .i64), (1, .int .i64)] [(0, 24)] := ⟨func18, by kernel_rfl, by kernel_rfl, by kernel_rfl, by kernel_rfl, by kernel_rfl⟩
theorem ref11_Random_calls (x : TT [(0, .int .i64), (1, .int .i64)]) (w : World) (y : TR [.int .i64]) (h : ref11_Random x.1 x.2.1 = some y) : Calls prog 18 (encA [(0, .int .i64), (1, .int .i64)] x).toArray w (fun e w3 => e = .returned (resV (encR [.int .i64] y)) ∧ w3 = w) :=
    mk_funQ (O := tabL [([1, 0, 0], ref11_Random_s0_se)]) (Lp := [(0, .int .i64), (1, .int .i64)]) (Rt := [.int .i64]) (S := (fun x w => ref11_Random x.1 x.2.1)) (ref11_Random_Rok) ref11_Random_facts (OrcQ.cons (by kernel_rfl) (ref11_Random_s0_se_ok [(0, 24)] (by kernel_rfl)) (OrcQ.nil _ _ _)) (fun _ _ => by kernel_rfl) x w y h
noncomputable def ref11_Random_re : RE := funR [(0, .int .i64), (1, .int .i64)] [.int .i64] (fun x w => ref11_Random x.1 x.2.1)
theorem ref11_Random_ok : (ref11_Random_re).Ok prog 18 := funR_ok (Rt := [.int .i64]) (S := (fun x w => ref11_Random x.1 x.2.1)) ref11_Random_facts fun x w y h => ref11_Random_calls x w y h

noncomputable def law11_Deal_random_E (K : Nat) : List (Nat × CE) := []
theorem law11_Deal_random_Eok (K : Nat) : Env.Ok prog (tab (law11_Deal_random_E K)) := (Env.nil _)
noncomputable def law11_Deal_random_R (K : Nat) : List (Nat × RE) := [(12, law11_cut_re), (18, ref11_Random_re)]
theorem law11_Deal_random_Rok (K : Nat) : REnv.Ok prog (tab (law11_Deal_random_R K)) := (REnv.cons (law11_cut_ok) (REnv.cons (ref11_Random_ok) (REnv.nil _)))
noncomputable def law11_Deal_random_l0_b (K : Nat) (rec : Addr → Int → Sl → Int → World → Option ((Sl × Unit) × World)) (d1 : Addr) (n3 : Int) (b4 : Sl) (i5 : Int) (w : World) : Option ((Sl × Unit) × World) :=
  if (decide (i5 < n3)) = true then ((ldS (d1.add 5) w).bind fun v_9 =>
  if (((v_9.len : Nat) : Int) == 0) = true then (bnd (bldS prog 23 1 #[(0, (.int .u8 (IntKind.u8.wrap (IntKind.i64.wrap ((IntKind.i64.wrap (i5 * i5)) + 7)))))] w) fun s_10 w_11 =>
  bnd (apd prog 23 23 (.slice b4.a b4.len b4.cap) (.slice s_10.a s_10.len s_10.cap) w_11) fun s_12 w_13 =>
  rec d1 n3 s_12 (IntKind.i64.wrap (i5 + 1)) w_13) else ((ldS (d1.add 5) w.drew).bind fun v_14 =>
  (ldS (d1.add 5) w.drew).bind fun v_15 =>
  if ((v_15.len : Nat) : Int) ≠ 0 then ((v_14.a).bind fun p_16 =>
  if (0 : Int) ≤ (Int.tmod i5 ((v_15.len : Nat) : Int)) ∧ (Int.tmod i5 ((v_15.len : Nat) : Int)) < ((v_14.len : Nat) : Int) then ((ldI .u8 (p_16.add ((Int.toNat (Int.tmod i5 ((v_15.len : Nat) : Int))) * 1)) w.drew).bind fun v_17 =>
  (ldS (d1.add 5) w.drew).bind fun v_18 =>
  if ((v_18.len : Nat) : Int) ≠ 0 then (bnd (bldS prog 23 1 #[(0, (.int .u8 (IntKind.u8.wrap (v_17 + (IntKind.u8.wrap (IntKind.i64.wrap (Int.tdiv i5 ((v_18.len : Nat) : Int))))))))] w.drew) fun s_19 w_20 =>
  bnd (apd prog 23 23 (.slice b4.a b4.len b4.cap) (.slice s_19.a s_19.len s_19.cap) w_20) fun s_21 w_22 =>
  rec d1 n3 s_21 (IntKind.i64.wrap (i5 + 1)) w_22) else none) else none) else none)) else (some ((b4, ()), w))
noncomputable def law11_Deal_random_l0 (K : Nat) (n : Nat) : Addr → Int → Sl → Int → World → Option ((Sl × Unit) × World) := iter (fun _ _ _ _ _ => none) (law11_Deal_random_l0_b K) n
/-- (coffer/cofferlaw11.Deal).random -/
noncomputable def law11_Deal_random (K : Nat) (d0 : Array Value) (w : World) : Option ((Sl × Unit) × World) :=
  bnd (newB d0 25 w) fun p_1 w_2 =>
  (ldB (p_1.add 4) w_2).bind fun v_3 =>
  if v_3 = true then ((ldS (p_1.add 5) w_2).bind fun v_4 =>
  (law11_cut v_4 2000).bind fun r_5 =>
  some ((r_5.1, ()), w_2)) else ((ldI .i64 (p_1.add 2) w_2).bind fun v_6 =>
  (ldS (p_1.add 1) w_2).bind fun v_7 =>
  (ref11_Random v_6 ((v_7.len : Nat) : Int)).bind fun r_8 =>
  bnd (law11_Deal_random_l0 K K p_1 r_8.1 ⟨none, 0, 0⟩ 0 w_2) fun y_23 w_24 =>
  some ((y_23.1, ()), w_24))
theorem law11_Deal_random_l0_ok (K : Nat) (n : Nat) : StmtNOk prog [(1, .addr), (3, .int .i64), (4, .sl), (5, .int .i64)] [(4, .sl)] [(4, 6), (17, 53)] ((fun n x w => law11_Deal_random_l0 K n x.1 x.2.1 x.2.2.1 x.2.2.2.1 w) n) (.block 0 (.loop (cd (bodyOf f13) [1, 1, 1, 1, 0, 1, 0, 0]))) :=
    mk_loopN (O := tabL []) (root := (bodyOf f13)) (π := [1, 1, 1, 1, 0, 1, 0, 0]) (id := 0) (Li := [(1, .addr), (3, .int .i64), (4, .sl), (5, .int .i64)]) (Lo := [(4, .sl)]) (S := (fun n x w => law11_Deal_random_l0 K n x.1 x.2.1 x.2.2.1 x.2.2.2.1 w)) (body := cd (bodyOf f13) [1, 1, 1, 1, 0, 1, 0, 0]) (law11_Deal_random_Eok K) (law11_Deal_random_Rok K) rfl (Orc.nil _ _ _) (by kernel_rfl) (fun _ _ => by kernel_rfl) (fun _ _ _ => by kernel_rfl) n
noncomputable def law11_Deal_random_l0_se (K : Nat) : SE := stmtN [(1, .addr), (3, .int .i64), (4, .sl), (5, .int .i64)] [(4, .sl)] [(4, 6), (17, 53)] (fun x w => law11_Deal_random_l0 K K x.1 x.2.1 x.2.2.1 x.2.2.2.1 w)
theorem law11_Deal_random_l0_se_ok (K : Nat) (R : Rg) (h : subRB [(4, 6), (17, 53)] R = true) : (law11_Deal_random_l0_se K).Ok prog R (.block 0 (.loop (cd (bodyOf f13) [1, 1, 1, 1, 0, 1, 0, 0]))) := stmtN_ok (Li := [(1, .addr), (3, .int .i64), (4, .sl), (5, .int .i64)]) (Lo := [(4, .sl)]) (S := (fun x w => law11_Deal_random_l0 K K x.1 x.2.1 x.2.2.1 x.2.2.2.1 w)) (law11_Deal_random_l0_ok K K) (subR_of h)
theorem law11_Deal_random_facts : FunFacts prog 13 f13 (bodyOf f13) [(0, .agg)] [(0, 54)] := ⟨func13, by kernel_rfl, by kernel_rfl, by kernel_rfl, by kernel_rfl, by kernel_rfl⟩
theorem law11_Deal_random_calls (K : Nat) (x : TT [(0, .agg)]) (w : World) (y : TR [.sl]) (w2 : World) (h : law11_Deal_random K x.1 w = some (y, w2)) : Calls prog 13 (encA [(0, .agg)] x).toArray w (fun e w3 => e = .returned (resV (encR [.sl] y)) ∧ w3 = w2) :=
    mk_fun (O := tabL [([1, 1, 1, 1, 0, 1], law11_Deal_random_l0_se K)]) (Lp := [(0, .agg)]) (Rt := [.sl]) (S := (fun x w => law11_Deal_random K x.1 w)) (law11_Deal_random_Eok K) (law11_Deal_random_Rok K) rfl law11_Deal_random_facts (Orc.cons (by kernel_rfl) (law11_Deal_random_l0_se_ok K [(0, 54)] (by kernel_rfl)) (Orc.nil _ _ _)) (fun _ _ => by kernel_rfl) x w y w2 h
noncomputable def law11_Deal_random_ce (K : Nat) : CE := funE [(0, .agg)] [.sl] (fun x w => law11_Deal_random K x.1 w)
theorem law11_Deal_random_ok (K : Nat) : (law11_Deal_random_ce K).Ok prog 13 := funE_ok (Rt := [.sl]) (S := (fun x w => law11_Deal_random K x.1 w)) law11_Deal_random_facts fun x w y w2 h => law11_Deal_random_calls K x w y w2 h

noncomputable def book_Bytes_E (K : Nat) : List (Nat × CE) := []
theorem book_Bytes_Eok (K : Nat) : Env.Ok prog (tab (book_Bytes_E K)) := (Env.nil _)
noncomputable def book_Bytes_R (K : Nat) : List (Nat × RE) := []
theorem book_Bytes_Rok (K : Nat) : REnv.Ok prog (tab (book_Bytes_R K)) := (REnv.nil _)
noncomputable def book_Bytes_l0_b (K : Nat) (rec : Sl → Sl → Int → World → Option ((Sl × Unit) × World)) (l0 : Sl) (c3 : Sl) (i4 : Int) (w : World) : Option ((Sl × Unit) × World) :=
  if (decide (i4 < 70)) = true then (bnd (bldS prog 23 1 #[(0, (.int .u8 (IntKind.u8.wrap (IntKind.i64.wrap (181 + i4)))))] w) fun s_3 w_4 =>
  bnd (apd prog 23 23 (.slice c3.a c3.len c3.cap) (.slice s_3.a s_3.len s_3.cap) w_4) fun s_5 w_6 =>
  rec l0 s_5 (IntKind.i64.wrap (i4 + 1)) w_6) else (some ((c3, ()), w))
noncomputable def book_Bytes_l0 (K : Nat) (n : Nat) : Sl → Sl → Int → World → Option ((Sl × Unit) × World) := iter (fun _ _ _ _ => none) (book_Bytes_l0_b K) n
/-- coffer/cofferbook.Bytes -/
noncomputable def book_Bytes (K : Nat) (l0 : Sl) (w : World) : Option ((Sl × Unit) × World) :=
  bnd (apd prog 23 23 (.slice none 0 0) (.slice l0.a l0.len l0.cap) w) fun s_1 w_2 =>
  bnd (book_Bytes_l0 K K l0 s_1 0 w_2) fun y_7 w_8 =>
  if (0 : Int) ≤ ((l0.len : Nat) : Int) ∧ ((l0.len : Nat) : Int) ≤ ((y_7.1.cap : Nat) : Int) then (some ((⟨(sla y_7.1.a 0 y_7.1.cap 1), ((Int.toNat (((l0.len : Nat) : Int))) - 0), (y_7.1.cap - 0)⟩, ()), w_8)) else none
theorem book_Bytes_l0_ok (K : Nat) (n : Nat) : StmtNOk prog [(0, .sl), (3, .sl), (4, .int .i64)] [(3, .sl)] [(3, 5), (9, 19)] ((fun n x w => book_Bytes_l0 K n x.1 x.2.1 x.2.2.1 w) n) (.block 0 (.loop (cd (bodyOf f14) [1, 1, 1, 0, 1, 0, 0]))) :=
    mk_loopN (O := tabL []) (root := (bodyOf f14)) (π := [1, 1, 1, 0, 1, 0, 0]) (id := 0) (Li := [(0, .sl), (3, .sl), (4, .int .i64)]) (Lo := [(3, .sl)]) (S := (fun n x w => book_Bytes_l0 K n x.1 x.2.1 x.2.2.1 w)) (body := cd (bodyOf f14) [1, 1, 1, 0, 1, 0, 0]) (book_Bytes_Eok K) (book_Bytes_Rok K) rfl (Orc.nil _ _ _) (by kernel_rfl) (fun _ _ => by kernel_rfl) (fun _ _ _ => by kernel_rfl) n
noncomputable def book_Bytes_l0_se (K : Nat) : SE := stmtN [(0, .sl), (3, .sl), (4, .int .i64)] [(3, .sl)] [(3, 5), (9, 19)] (fun x w => book_Bytes_l0 K K x.1 x.2.1 x.2.2.1 w)
theorem book_Bytes_l0_se_ok (K : Nat) (R : Rg) (h : subRB [(3, 5), (9, 19)] R = true) : (book_Bytes_l0_se K).Ok prog R (.block 0 (.loop (cd (bodyOf f14) [1, 1, 1, 0, 1, 0, 0]))) := stmtN_ok (Li := [(0, .sl), (3, .sl), (4, .int .i64)]) (Lo := [(3, .sl)]) (S := (fun x w => book_Bytes_l0 K K x.1 x.2.1 x.2.2.1 w)) (book_Bytes_l0_ok K K) (subR_of h)
theorem book_Bytes_facts : FunFacts prog 14 f14 (bodyOf f14) [(0, .sl)] [(0, 24)] := ⟨func14, by kernel_rfl, by kernel_rfl, by kernel_rfl, by kernel_rfl, by kernel_rfl⟩
theorem book_Bytes_calls (K : Nat) (x : TT [(0, .sl)]) (w : World) (y : TR [.sl]) (w2 : World) (h : book_Bytes K x.1 w = some (y, w2)) : Calls prog 14 (encA [(0, .sl)] x).toArray w (fun e w3 => e = .returned (resV (encR [.sl] y)) ∧ w3 = w2) :=
    mk_fun (O := tabL [([1, 1, 1, 0, 1], book_Bytes_l0_se K)]) (Lp := [(0, .sl)]) (Rt := [.sl]) (S := (fun x w => book_Bytes K x.1 w)) (book_Bytes_Eok K) (book_Bytes_Rok K) rfl book_Bytes_facts (Orc.cons (by kernel_rfl) (book_Bytes_l0_se_ok K [(0, 24)] (by kernel_rfl)) (Orc.nil _ _ _)) (fun _ _ => by kernel_rfl) x w y w2 h
noncomputable def book_Bytes_ce (K : Nat) : CE := funE [(0, .sl)] [.sl] (fun x w => book_Bytes K x.1 w)
theorem book_Bytes_ok (K : Nat) : (book_Bytes_ce K).Ok prog 14 := funE_ok (Rt := [.sl]) (S := (fun x w => book_Bytes K x.1 w)) book_Bytes_facts fun x w y w2 h => book_Bytes_calls K x w y w2 h

noncomputable def ref11_may_R : List (Nat × RE) := []
theorem ref11_may_Rok : REnv.Ok prog (tab (ref11_may_R)) := (REnv.nil _)
noncomputable def ref11_may_s0 (n0 : Int) : Option (Out (Bool × Unit) (Int × Unit)) :=
  if (decide (n0 < 1)) = true then (some (.norm (true, ()))) else (some (.norm ((decide (n0 > 64)), ())))
/-- coffer/cofferref11.may -/
noncomputable def ref11_may (n0 : Int) (need1 : Int) (count2 : Int) : Option (Int × Unit) :=
  (ref11_may_s0 n0).bind fun y_1 =>
  (match y_1 with
  | .norm z_2n => (if z_2n.1 = true then (some (111, ())) else (if (decide (need1 < 1)) = true then (some (110, ())) else (if (decide (need1 > 16)) = true then (some (110, ())) else (if (decide (count2 < need1)) = true then (some (110, ())) else (if (decide (count2 > 255)) = true then (some (110, ())) else (some (0, ())))))))
  | .ret z_2r => (some (z_2r.1, ())))
theorem ref11_may_s0_ok : StmtQOk prog [(0, .int .i64)] [(12, .bool)] [(6, .int .i64)] [(7, 13)] (fun x w => ref11_may_s0 x.1) (cd (bodyOf f46) [1, 0, 0]) :=
    mk_stmtQ (O := tabL []) (root := (bodyOf f46)) (π := [1, 0, 0]) (Li := [(0, .int .i64)]) (Lo := [(12, .bool)]) (Lr := [(6, .int .i64)]) (S := (fun x w => ref11_may_s0 x.1)) (ref11_may_Rok) (OrcQ.nil _ _ _) (by kernel_rfl) (fun _ _ => by kernel_rfl)
noncomputable def ref11_may_s0_se : SQ := stmtQ [(0, .int .i64)] [(12, .bool)] [(6, .int .i64)] [(7, 13)] (fun x w => ref11_may_s0 x.1)
theorem ref11_may_s0_se_ok (R : Rg) (h : subRB [(7, 13)] R = true) : (ref11_may_s0_se).Ok prog R (cd (bodyOf f46) [1, 0, 0]) := stmtQ_ok (Li := [(0, .int .i64)]) (Lo := [(12, .bool)]) (Lr := [(6, .int .i64)]) (S := (fun x w => ref11_may_s0 x.1)) (ref11_may_s0_ok) (subR_of h)
theorem ref11_may_facts : FunFacts prog 46 f46 (bodyOf f46) [(0, .int .i64), (1, .int .i64), (2, .int .i64)] [(0, 28)] := ⟨func46, by kernel_rfl, by kernel_rfl, by kernel_rfl, by kernel_rfl, by kernel_rfl⟩
theorem ref11_may_calls (x : TT [(0, .int .i64), (1, .int .i64), (2, .int .i64)]) (w : World) (y : TR [.int .i64]) (h : ref11_may x.1 x.2.1 x.2.2.1 = some y) : Calls prog 46 (encA [(0, .int .i64), (1, .int .i64), (2, .int .i64)] x).toArray w (fun e w3 => e = .returned (resV (encR [.int .i64] y)) ∧ w3 = w) :=
    mk_funQ (O := tabL [([1, 0, 0], ref11_may_s0_se)]) (Lp := [(0, .int .i64), (1, .int .i64), (2, .int .i64)]) (Rt := [.int .i64]) (S := (fun x w => ref11_may x.1 x.2.1 x.2.2.1)) (ref11_may_Rok) ref11_may_facts (OrcQ.cons (by kernel_rfl) (ref11_may_s0_se_ok [(0, 28)] (by kernel_rfl)) (OrcQ.nil _ _ _)) (fun _ _ => by kernel_rfl) x w y h
noncomputable def ref11_may_re : RE := funR [(0, .int .i64), (1, .int .i64), (2, .int .i64)] [.int .i64] (fun x w => ref11_may x.1 x.2.1 x.2.2.1)
theorem ref11_may_ok : (ref11_may_re).Ok prog 46 := funR_ok (Rt := [.int .i64]) (S := (fun x w => ref11_may x.1 x.2.1 x.2.2.1)) ref11_may_facts fun x w y h => ref11_may_calls x w y h

noncomputable def ref01_Block_R : List (Nat × RE) := []
theorem ref01_Block_Rok : REnv.Ok prog (tab (ref01_Block_R)) := (REnv.nil _)
noncomputable def ref01_Block_s0 (a3 : Int) (a4 : Bool) : Option (Out (Bool × Unit) (Int × Unit)) :=
  if a4 = true then (some (.norm (true, ()))) else (some (.norm ((a3 == 256), ())))
/-- coffer/cofferref01.Block -/
noncomputable def ref01_Block (hash0 : Int) : Option (Int × Unit) :=
  (ref01_Block_s0 hash0 (hash0 == 224)).bind fun y_1 =>
  (match y_1 with
  | .norm z_2n => (if z_2n.1 = true then (some (64, ())) else (if (hash0 == 384) = true then (some (128, ())) else (if (hash0 == 512) = true then (some (128, ())) else (some (0, ())))))
  | .ret z_2r => (some (z_2r.1, ())))
theorem ref01_Block_s0_ok : StmtQOk prog [(3, .int .i64), (4, .bool)] [(4, .bool)] [(2, .int .i64)] [(4, 5), (6, 7)] (fun x w => ref01_Block_s0 x.1 x.2.1) (cd (bodyOf f94) [1, 0, 1, 0, 0, 1]) :=
    mk_stmtQ (O := tabL []) (root := (bodyOf f94)) (π := [1, 0, 1, 0, 0, 1]) (Li := [(3, .int .i64), (4, .bool)]) (Lo := [(4, .bool)]) (Lr := [(2, .int .i64)]) (S := (fun x w => ref01_Block_s0 x.1 x.2.1)) (ref01_Block_Rok) (OrcQ.nil _ _ _) (by kernel_rfl) (fun _ _ => by kernel_rfl)
noncomputable def ref01_Block_s0_se : SQ := stmtQ [(3, .int .i64), (4, .bool)] [(4, .bool)] [(2, .int .i64)] [(4, 5), (6, 7)] (fun x w => ref01_Block_s0 x.1 x.2.1)
theorem ref01_Block_s0_se_ok (R : Rg) (h : subRB [(4, 5), (6, 7)] R = true) : (ref01_Block_s0_se).Ok prog R (cd (bodyOf f94) [1, 0, 1, 0, 0, 1]) := stmtQ_ok (Li := [(3, .int .i64), (4, .bool)]) (Lo := [(4, .bool)]) (Lr := [(2, .int .i64)]) (S := (fun x w => ref01_Block_s0 x.1 x.2.1)) (ref01_Block_s0_ok) (subR_of h)
theorem ref01_Block_facts : FunFacts prog 94 f94 (bodyOf f94) [(0, .int .i64)] [(0, 10)] := ⟨func94, by kernel_rfl, by kernel_rfl, by kernel_rfl, by kernel_rfl, by kernel_rfl⟩
theorem ref01_Block_calls (x : TT [(0, .int .i64)]) (w : World) (y : TR [.int .i64]) (h : ref01_Block x.1 = some y) : Calls prog 94 (encA [(0, .int .i64)] x).toArray w (fun e w3 => e = .returned (resV (encR [.int .i64] y)) ∧ w3 = w) :=
    mk_funQ (O := tabL [([1, 0, 1, 0, 0, 1], ref01_Block_s0_se)]) (Lp := [(0, .int .i64)]) (Rt := [.int .i64]) (S := (fun x w => ref01_Block x.1)) (ref01_Block_Rok) ref01_Block_facts (OrcQ.cons (by kernel_rfl) (ref01_Block_s0_se_ok [(0, 10)] (by kernel_rfl)) (OrcQ.nil _ _ _)) (fun _ _ => by kernel_rfl) x w y h
noncomputable def ref01_Block_re : RE := funR [(0, .int .i64)] [.int .i64] (fun x w => ref01_Block x.1)
theorem ref01_Block_ok : (ref01_Block_re).Ok prog 94 := funR_ok (Rt := [.int .i64]) (S := (fun x w => ref01_Block x.1)) ref01_Block_facts fun x w y h => ref01_Block_calls x w y h

noncomputable def ref01_first_E (K : Nat) : List (Nat × CE) := []
theorem ref01_first_Eok (K : Nat) : Env.Ok prog (tab (ref01_first_E K)) := (Env.nil _)
noncomputable def ref01_first_R (K : Nat) : List (Nat × RE) := []
theorem ref01_first_Rok (K : Nat) : REnv.Ok prog (tab (ref01_first_R K)) := (REnv.nil _)
noncomputable def ref01_first_l0_b (K : Nat) (rec : Int → Addr → Addr → Int → World → Option ((Unit) × World)) (hash0 : Int) (a2 : Addr) (h3 : Addr) (i4 : Int) (w : World) : Option ((Unit) × World) :=
  if (decide (i4 < 8)) = true then (if (hash0 == 224) = true then (if (0 : Int) ≤ (IntKind.i64.wrap (8 + i4)) ∧ (IntKind.i64.wrap (8 + i4)) < ((16 : Nat) : Int) then ((ldI .u64 ((⟨1, 0, none⟩ : Addr).add ((Int.toNat (IntKind.i64.wrap (8 + i4))) * 1)) w).bind fun v_5 =>
  if (0 : Int) ≤ i4 ∧ i4 < ((8 : Nat) : Int) then ((stC (h3.add ((Int.toNat i4) * 1)) (.int .u64 (Int.tmod v_5 4294967296)) w).bind fun w_6 =>
  rec hash0 a2 h3 (IntKind.i64.wrap (i4 + 1)) w_6) else none) else none) else (if (hash0 == 256) = true then (if (0 : Int) ≤ i4 ∧ i4 < ((16 : Nat) : Int) then ((ldI .u64 ((⟨1, 0, none⟩ : Addr).add ((Int.toNat i4) * 1)) w).bind fun v_7 =>
  if (0 : Int) ≤ i4 ∧ i4 < ((8 : Nat) : Int) then ((stC (h3.add ((Int.toNat i4) * 1)) (.int .u64 (Int.fdiv v_7 (2 ^ 32))) w).bind fun w_8 =>
  rec hash0 a2 h3 (IntKind.i64.wrap (i4 + 1)) w_8) else none) else none) else (if (hash0 == 384) = true then (if (0 : Int) ≤ (IntKind.i64.wrap (8 + i4)) ∧ (IntKind.i64.wrap (8 + i4)) < ((16 : Nat) : Int) then ((ldI .u64 ((⟨1, 0, none⟩ : Addr).add ((Int.toNat (IntKind.i64.wrap (8 + i4))) * 1)) w).bind fun v_9 =>
  if (0 : Int) ≤ i4 ∧ i4 < ((8 : Nat) : Int) then ((stC (h3.add ((Int.toNat i4) * 1)) (.int .u64 v_9) w).bind fun w_10 =>
  rec hash0 a2 h3 (IntKind.i64.wrap (i4 + 1)) w_10) else none) else none) else (if (hash0 == 512) = true then (if (0 : Int) ≤ i4 ∧ i4 < ((16 : Nat) : Int) then ((ldI .u64 ((⟨1, 0, none⟩ : Addr).add ((Int.toNat i4) * 1)) w).bind fun v_11 =>
  if (0 : Int) ≤ i4 ∧ i4 < ((8 : Nat) : Int) then ((stC (h3.add ((Int.toNat i4) * 1)) (.int .u64 v_11) w).bind fun w_12 =>
  rec hash0 a2 h3 (IntKind.i64.wrap (i4 + 1)) w_12) else none) else none) else (rec hash0 a2 h3 (IntKind.i64.wrap (i4 + 1)) w))))) else (some ((), w))
noncomputable def ref01_first_l0 (K : Nat) (n : Nat) : Int → Addr → Addr → Int → World → Option ((Unit) × World) := iter (fun _ _ _ _ _ => none) (ref01_first_l0_b K) n
/-- coffer/cofferref01.first -/
noncomputable def ref01_first (K : Nat) (hash0 : Int) (w : World) : Option (((Array Value) × Unit) × World) :=
  bnd (newB z150 150 w) fun p_1 w_2 =>
  bnd (newB z150 150 w_2) fun h_3 w_4 =>
  bnd (ref01_first_l0 K K hash0 p_1 h_3 0 w_4) fun y_13 w_14 =>
  (ldA 8 h_3 w_14).bind fun v_15 =>
  if (v_15).size = 8 then ((stA p_1 v_15 w_14).bind fun w_16 =>
  (ldA 8 p_1 w_16).bind fun res_17 =>
  some ((res_17, ()), w_16)) else none
theorem ref01_first_l0_ok (K : Nat) (n : Nat) : StmtNOk prog [(0, .int .i64), (2, .addr), (3, .addr), (4, .int .i64)] [] [(4, 42)] ((fun n x w => ref01_first_l0 K n x.1 x.2.1 x.2.2.1 x.2.2.2.1 w) n) (.block 0 (.loop (cd (bodyOf f98) [1, 1, 0, 1, 0, 0]))) :=
    mk_loopN (O := tabL []) (root := (bodyOf f98)) (π := [1, 1, 0, 1, 0, 0]) (id := 0) (Li := [(0, .int .i64), (2, .addr), (3, .addr), (4, .int .i64)]) (Lo := []) (S := (fun n x w => ref01_first_l0 K n x.1 x.2.1 x.2.2.1 x.2.2.2.1 w)) (body := cd (bodyOf f98) [1, 1, 0, 1, 0, 0]) (ref01_first_Eok K) (ref01_first_Rok K) rfl (Orc.nil _ _ _) (by kernel_rfl) (fun _ _ => by kernel_rfl) (fun _ _ _ => by kernel_rfl) n
noncomputable def ref01_first_l0_se (K : Nat) : SE := stmtN [(0, .int .i64), (2, .addr), (3, .addr), (4, .int .i64)] [] [(4, 42)] (fun x w => ref01_first_l0 K K x.1 x.2.1 x.2.2.1 x.2.2.2.1 w)
theorem ref01_first_l0_se_ok (K : Nat) (R : Rg) (h : subRB [(4, 42)] R = true) : (ref01_first_l0_se K).Ok prog R (.block 0 (.loop (cd (bodyOf f98) [1, 1, 0, 1, 0, 0]))) := stmtN_ok (Li := [(0, .int .i64), (2, .addr), (3, .addr), (4, .int .i64)]) (Lo := []) (S := (fun x w => ref01_first_l0 K K x.1 x.2.1 x.2.2.1 x.2.2.2.1 w)) (ref01_first_l0_ok K K) (subR_of h)
theorem ref01_first_facts : FunFacts prog 98 f98 (bodyOf f98) [(0, .int .i64)] [(0, 43)] := ⟨func98, by kernel_rfl, by kernel_rfl, by kernel_rfl, by kernel_rfl, by kernel_rfl⟩
theorem ref01_first_calls (K : Nat) (x : TT [(0, .int .i64)]) (w : World) (y : TR [.agg]) (w2 : World) (h : ref01_first K x.1 w = some (y, w2)) : Calls prog 98 (encA [(0, .int .i64)] x).toArray w (fun e w3 => e = .returned (resV (encR [.agg] y)) ∧ w3 = w2) :=
    mk_fun (O := tabL [([1, 1, 0, 1], ref01_first_l0_se K)]) (Lp := [(0, .int .i64)]) (Rt := [.agg]) (S := (fun x w => ref01_first K x.1 w)) (ref01_first_Eok K) (ref01_first_Rok K) rfl ref01_first_facts (Orc.cons (by kernel_rfl) (ref01_first_l0_se_ok K [(0, 43)] (by kernel_rfl)) (Orc.nil _ _ _)) (fun _ _ => by kernel_rfl) x w y w2 h
noncomputable def ref01_first_ce (K : Nat) : CE := funE [(0, .int .i64)] [.agg] (fun x w => ref01_first K x.1 w)
theorem ref01_first_ok (K : Nat) : (ref01_first_ce K).Ok prog 98 := funE_ok (Rt := [.agg]) (S := (fun x w => ref01_first K x.1 w)) ref01_first_facts fun x w y w2 h => ref01_first_calls K x w y w2 h

noncomputable def ref01_laid_E (K : Nat) : List (Nat × CE) := []
theorem ref01_laid_Eok (K : Nat) : Env.Ok prog (tab (ref01_laid_E K)) := (Env.nil _)
noncomputable def ref01_laid_R (K : Nat) : List (Nat × RE) := []
theorem ref01_laid_Rok (K : Nat) : REnv.Ok prog (tab (ref01_laid_R K)) := (REnv.nil _)
noncomputable def ref01_laid_l0_b (K : Nat) (rec : Sl → Int → Sl → World → Option ((Sl × Unit) × World)) (b0 : Sl) (block1 : Int) (p5 : Sl) (w : World) : Option ((Sl × Unit) × World) :=
  if block1 ≠ 0 then (if ((Int.tmod (IntKind.i64.wrap (((p5.len : Nat) : Int) + (IntKind.i64.wrap (Int.tdiv block1 8)))) block1) != 0) = true then (bnd (bldS prog 23 1 #[(0, (.int .u8 0))] w) fun s_7 w_8 =>
  bnd (apd prog 23 23 (.slice p5.a p5.len p5.cap) (.slice s_7.a s_7.len s_7.cap) w_8) fun s_9 w_10 =>
  rec b0 block1 s_9 w_10) else (some ((p5, ()), w))) else none
noncomputable def ref01_laid_l0 (K : Nat) (n : Nat) : Sl → Int → Sl → World → Option ((Sl × Unit) × World) := iter (fun _ _ _ _ => none) (ref01_laid_l0_b K) n
noncomputable def ref01_laid_l1_b (K : Nat) (rec : Sl → Int → Int → World → Option ((Sl × Unit) × World)) (p5 : Sl) (bits6 : Int) (i7 : Int) (w : World) : Option ((Sl × Unit) × World) :=
  if (decide (i7 ≥ 0)) = true then (if (decide (i7 ≥ 8)) = true then (bnd (bldS prog 23 1 #[(0, (.int .u8 0))] w) fun s_13 w_14 =>
  bnd (apd prog 23 23 (.slice p5.a p5.len p5.cap) (.slice s_13.a s_13.len s_13.cap) w_14) fun s_15 w_16 =>
  rec s_15 bits6 (IntKind.i64.wrap (i7 - 1)) w_16) else (if (0 : Int) ≤ (IntKind.u64.wrap (IntKind.i64.wrap (8 * i7))) then (bnd (bldS prog 23 1 #[(0, (.int .u8 (IntKind.u8.wrap (Int.fdiv bits6 (2 ^ (min (Int.toNat (IntKind.u64.wrap (IntKind.i64.wrap (8 * i7)))) IntKind.u64.bits))))))] w) fun s_17 w_18 =>
  bnd (apd prog 23 23 (.slice p5.a p5.len p5.cap) (.slice s_17.a s_17.len s_17.cap) w_18) fun s_19 w_20 =>
  rec s_19 bits6 (IntKind.i64.wrap (i7 - 1)) w_20) else none)) else (some ((p5, ()), w))
noncomputable def ref01_laid_l1 (K : Nat) (n : Nat) : Sl → Int → Int → World → Option ((Sl × Unit) × World) := iter (fun _ _ _ _ => none) (ref01_laid_l1_b K) n
/-- coffer/cofferref01.laid -/
noncomputable def ref01_laid (K : Nat) (b0 : Sl) (block1 : Int) (w : World) : Option ((Sl × Unit) × World) :=
  bnd (apd prog 23 23 (.slice none 0 0) (.slice b0.a b0.len b0.cap) w) fun s_1 w_2 =>
  bnd (bldS prog 23 1 #[(0, (.int .u8 128))] w_2) fun s_3 w_4 =>
  bnd (apd prog 23 23 (.slice s_1.a s_1.len s_1.cap) (.slice s_3.a s_3.len s_3.cap) w_4) fun s_5 w_6 =>
  bnd (ref01_laid_l0 K K b0 block1 s_5 w_6) fun y_11 w_12 =>
  bnd (ref01_laid_l1 K K y_11.1 (IntKind.u64.wrap ((IntKind.u64.wrap ((b0.len : Nat) : Int)) * 8)) (IntKind.i64.wrap ((IntKind.i64.wrap (Int.tdiv block1 8)) - 1)) w_12) fun y_21 w_22 =>
  some ((y_21.1, ()), w_22)
theorem ref01_laid_l0_ok (K : Nat) (n : Nat) : StmtNOk prog [(0, .sl), (1, .int .i64), (5, .sl)] [(5, .sl)] [(5, 6), (14, 25)] ((fun n x w => ref01_laid_l0 K n x.1 x.2.1 x.2.2.1 w) n) (.block 0 (.loop (cd (bodyOf f99) [1, 1, 1, 1, 0, 0, 0]))) :=
    mk_loopN (O := tabL []) (root := (bodyOf f99)) (π := [1, 1, 1, 1, 0, 0, 0]) (id := 0) (Li := [(0, .sl), (1, .int .i64), (5, .sl)]) (Lo := [(5, .sl)]) (S := (fun n x w => ref01_laid_l0 K n x.1 x.2.1 x.2.2.1 w)) (body := cd (bodyOf f99) [1, 1, 1, 1, 0, 0, 0]) (ref01_laid_Eok K) (ref01_laid_Rok K) rfl (Orc.nil _ _ _) (by kernel_rfl) (fun _ _ => by kernel_rfl) (fun _ _ _ => by kernel_rfl) n
noncomputable def ref01_laid_l0_se (K : Nat) : SE := stmtN [(0, .sl), (1, .int .i64), (5, .sl)] [(5, .sl)] [(5, 6), (14, 25)] (fun x w => ref01_laid_l0 K K x.1 x.2.1 x.2.2.1 w)
theorem ref01_laid_l0_se_ok (K : Nat) (R : Rg) (h : subRB [(5, 6), (14, 25)] R = true) : (ref01_laid_l0_se K).Ok prog R (.block 0 (.loop (cd (bodyOf f99) [1, 1, 1, 1, 0, 0, 0]))) := stmtN_ok (Li := [(0, .sl), (1, .int .i64), (5, .sl)]) (Lo := [(5, .sl)]) (S := (fun x w => ref01_laid_l0 K K x.1 x.2.1 x.2.2.1 w)) (ref01_laid_l0_ok K K) (subR_of h)
theorem ref01_laid_l1_ok (K : Nat) (n : Nat) : StmtNOk prog [(5, .sl), (6, .int .u64), (7, .int .i64)] [(5, .sl)] [(5, 6), (7, 8), (32, 50)] ((fun n x w => ref01_laid_l1 K n x.1 x.2.1 x.2.2.1 w) n) (.block 2 (.loop (cd (bodyOf f99) [1, 1, 1, 1, 1, 1, 0, 1, 0, 0]))) :=
    mk_loopN (O := tabL []) (root := (bodyOf f99)) (π := [1, 1, 1, 1, 1, 1, 0, 1, 0, 0]) (id := 2) (Li := [(5, .sl), (6, .int .u64), (7, .int .i64)]) (Lo := [(5, .sl)]) (S := (fun n x w => ref01_laid_l1 K n x.1 x.2.1 x.2.2.1 w)) (body := cd (bodyOf f99) [1, 1, 1, 1, 1, 1, 0, 1, 0, 0]) (ref01_laid_Eok K) (ref01_laid_Rok K) rfl (Orc.nil _ _ _) (by kernel_rfl) (fun _ _ => by kernel_rfl) (fun _ _ _ => by kernel_rfl) n
noncomputable def ref01_laid_l1_se (K : Nat) : SE := stmtN [(5, .sl), (6, .int .u64), (7, .int .i64)] [(5, .sl)] [(5, 6), (7, 8), (32, 50)] (fun x w => ref01_laid_l1 K K x.1 x.2.1 x.2.2.1 w)
theorem ref01_laid_l1_se_ok (K : Nat) (R : Rg) (h : subRB [(5, 6), (7, 8), (32, 50)] R = true) : (ref01_laid_l1_se K).Ok prog R (.block 2 (.loop (cd (bodyOf f99) [1, 1, 1, 1, 1, 1, 0, 1, 0, 0]))) := stmtN_ok (Li := [(5, .sl), (6, .int .u64), (7, .int .i64)]) (Lo := [(5, .sl)]) (S := (fun x w => ref01_laid_l1 K K x.1 x.2.1 x.2.2.1 w)) (ref01_laid_l1_ok K K) (subR_of h)
theorem ref01_laid_facts : FunFacts prog 99 f99 (bodyOf f99) [(0, .sl), (1, .int .i64)] [(0, 51)] := ⟨func99, by kernel_rfl, by kernel_rfl, by kernel_rfl, by kernel_rfl, by kernel_rfl⟩
theorem ref01_laid_calls (K : Nat) (x : TT [(0, .sl), (1, .int .i64)]) (w : World) (y : TR [.sl]) (w2 : World) (h : ref01_laid K x.1 x.2.1 w = some (y, w2)) : Calls prog 99 (encA [(0, .sl), (1, .int .i64)] x).toArray w (fun e w3 => e = .returned (resV (encR [.sl] y)) ∧ w3 = w2) :=
    mk_fun (O := tabL [([1, 1, 1, 1, 0], ref01_laid_l0_se K), ([1, 1, 1, 1, 1, 1, 0, 1], ref01_laid_l1_se K)]) (Lp := [(0, .sl), (1, .int .i64)]) (Rt := [.sl]) (S := (fun x w => ref01_laid K x.1 x.2.1 w)) (ref01_laid_Eok K) (ref01_laid_Rok K) rfl ref01_laid_facts (Orc.cons (by kernel_rfl) (ref01_laid_l0_se_ok K [(0, 51)] (by kernel_rfl)) (Orc.cons (by kernel_rfl) (ref01_laid_l1_se_ok K [(0, 51)] (by kernel_rfl)) (Orc.nil _ _ _))) (fun _ _ => by kernel_rfl) x w y w2 h
noncomputable def ref01_laid_ce (K : Nat) : CE := funE [(0, .sl), (1, .int .i64)] [.sl] (fun x w => ref01_laid K x.1 x.2.1 w)
theorem ref01_laid_ok (K : Nat) : (ref01_laid_ce K).Ok prog 99 := funE_ok (Rt := [.sl]) (S := (fun x w => ref01_laid K x.1 x.2.1 w)) ref01_laid_facts fun x w y w2 h => ref01_laid_calls K x w y w2 h

noncomputable def ref01_taken32_E (K : Nat) : List (Nat × CE) := []
theorem ref01_taken32_Eok (K : Nat) : Env.Ok prog (tab (ref01_taken32_E K)) := (Env.nil _)
noncomputable def ref01_taken32_R (K : Nat) : List (Nat × RE) := []
theorem ref01_taken32_Rok (K : Nat) : REnv.Ok prog (tab (ref01_taken32_R K)) := (REnv.nil _)
noncomputable def ref01_taken32_l0_b (K : Nat) (rec : Sl → Addr → Addr → Addr → Addr → Int → World → Option ((Unit) × World)) (block1 : Sl) (h3 : Addr) (k5 : Addr) (a6 : Addr) (w7 : Addr) (t8 : Int) (w : World) : Option ((Unit) × World) :=
  if (decide (t8 < 16)) = true then ((block1.a).bind fun p_9 =>
  if (0 : Int) ≤ (IntKind.i64.wrap (4 * t8)) ∧ (IntKind.i64.wrap (4 * t8)) < ((block1.len : Nat) : Int) then ((block1.a).bind fun p_10 =>
  if (0 : Int) ≤ (IntKind.i64.wrap ((IntKind.i64.wrap (4 * t8)) + 1)) ∧ (IntKind.i64.wrap ((IntKind.i64.wrap (4 * t8)) + 1)) < ((block1.len : Nat) : Int) then ((block1.a).bind fun p_11 =>
  if (0 : Int) ≤ (IntKind.i64.wrap ((IntKind.i64.wrap (4 * t8)) + 2)) ∧ (IntKind.i64.wrap ((IntKind.i64.wrap (4 * t8)) + 2)) < ((block1.len : Nat) : Int) then ((block1.a).bind fun p_12 =>
  if (0 : Int) ≤ (IntKind.i64.wrap ((IntKind.i64.wrap (4 * t8)) + 3)) ∧ (IntKind.i64.wrap ((IntKind.i64.wrap (4 * t8)) + 3)) < ((block1.len : Nat) : Int) then ((ldI .u8 (p_9.add ((Int.toNat (IntKind.i64.wrap (4 * t8))) * 1)) w.drew).bind fun v_13 =>
  (ldI .u8 (p_10.add ((Int.toNat (IntKind.i64.wrap ((IntKind.i64.wrap (4 * t8)) + 1))) * 1)) w.drew).bind fun v_14 =>
  (ldI .u8 (p_11.add ((Int.toNat (IntKind.i64.wrap ((IntKind.i64.wrap (4 * t8)) + 2))) * 1)) w.drew).bind fun v_15 =>
  (ldI .u8 (p_12.add ((Int.toNat (IntKind.i64.wrap ((IntKind.i64.wrap (4 * t8)) + 3))) * 1)) w.drew).bind fun v_16 =>
  if (0 : Int) ≤ t8 ∧ t8 < ((64 : Nat) : Int) then ((stC (w7.add ((Int.toNat t8) * 1)) (.int .u32 (bits .or .u32 (bits .or .u32 (bits .or .u32 (IntKind.u32.wrap ((IntKind.u32.wrap v_13) * 2 ^ 24)) (IntKind.u32.wrap ((IntKind.u32.wrap v_14) * 2 ^ 16))) (IntKind.u32.wrap ((IntKind.u32.wrap v_15) * 2 ^ 8))) (IntKind.u32.wrap v_16))) w.drew).bind fun w_17 =>
  rec block1 h3 k5 a6 w7 (IntKind.i64.wrap (t8 + 1)) w_17) else none) else none) else none) else none) else none) else (some ((), w))
noncomputable def ref01_taken32_l0 (K : Nat) (n : Nat) : Sl → Addr → Addr → Addr → Addr → Int → World → Option ((Unit) × World) := iter (fun _ _ _ _ _ _ _ => none) (ref01_taken32_l0_b K) n
noncomputable def ref01_taken32_l1_b (K : Nat) (rec : Addr → Addr → Addr → Addr → Int → World → Option ((Unit) × World)) (h3 : Addr) (k5 : Addr) (a6 : Addr) (w7 : Addr) (t9 : Int) (w : World) : Option ((Unit) × World) :=
  if (decide (t9 < 64)) = true then (if (0 : Int) ≤ (IntKind.i64.wrap (t9 - 15)) ∧ (IntKind.i64.wrap (t9 - 15)) < ((64 : Nat) : Int) then ((ldI .u32 (w7.add ((Int.toNat (IntKind.i64.wrap (t9 - 15))) * 1)) w).bind fun v_20 =>
  if (0 : Int) ≤ (IntKind.i64.wrap (t9 - 2)) ∧ (IntKind.i64.wrap (t9 - 2)) < ((64 : Nat) : Int) then ((ldI .u32 (w7.add ((Int.toNat (IntKind.i64.wrap (t9 - 2))) * 1)) w).bind fun v_21 =>
  if (0 : Int) ≤ (IntKind.i64.wrap (t9 - 7)) ∧ (IntKind.i64.wrap (t9 - 7)) < ((64 : Nat) : Int) then (if (0 : Int) ≤ (IntKind.i64.wrap (t9 - 16)) ∧ (IntKind.i64.wrap (t9 - 16)) < ((64 : Nat) : Int) then ((ldI .u32 (w7.add ((Int.toNat (IntKind.i64.wrap (t9 - 7))) * 1)) w.drew).bind fun v_22 =>
  (ldI .u32 (w7.add ((Int.toNat (IntKind.i64.wrap (t9 - 16))) * 1)) w.drew).bind fun v_23 =>
  if (0 : Int) ≤ t9 ∧ t9 < ((64 : Nat) : Int) then ((stC (w7.add ((Int.toNat t9) * 1)) (.int .u32 (IntKind.u32.wrap ((IntKind.u32.wrap ((IntKind.u32.wrap ((bits .xor .u32 (bits .xor .u32 (bits .or .u32 (Int.fdiv v_21 (2 ^ 17)) (IntKind.u32.wrap (v_21 * 2 ^ 15))) (bits .or .u32 (Int.fdiv v_21 (2 ^ 19)) (IntKind.u32.wrap (v_21 * 2 ^ 13)))) (Int.fdiv v_21 (2 ^ 10))) + v_22)) + (bits .xor .u32 (bits .xor .u32 (bits .or .u32 (Int.fdiv v_20 (2 ^ 7)) (IntKind.u32.wrap (v_20 * 2 ^ 25))) (bits .or .u32 (Int.fdiv v_20 (2 ^ 18)) (IntKind.u32.wrap (v_20 * 2 ^ 14)))) (Int.fdiv v_20 (2 ^ 3))))) + v_23))) w.drew).bind fun w_24 =>
  rec h3 k5 a6 w7 (IntKind.i64.wrap (t9 + 1)) w_24) else none) else none) else none) else none) else none) else (some ((), w))
noncomputable def ref01_taken32_l1 (K : Nat) (n : Nat) : Addr → Addr → Addr → Addr → Int → World → Option ((Unit) × World) := iter (fun _ _ _ _ _ _ => none) (ref01_taken32_l1_b K) n
noncomputable def ref01_taken32_l2_b (K : Nat) (rec : Addr → Addr → Addr → Addr → Int → Int → Int → Int → Int → Int → Int → Int → Int → World → Option ((Int × Int × Int × Int × Int × Int × Int × Int × Unit) × World)) (h3 : Addr) (k5 : Addr) (a6 : Addr) (w7 : Addr) (a14 : Int) (b15 : Int) (c16 : Int) (d17 : Int) (e18 : Int) (f19 : Int) (g20 : Int) (z21 : Int) (t22 : Int) (w : World) : Option ((Int × Int × Int × Int × Int × Int × Int × Int × Unit) × World) :=
  if (decide (t22 < 64)) = true then (if (0 : Int) ≤ t22 ∧ t22 < ((64 : Nat) : Int) then (if (0 : Int) ≤ t22 ∧ t22 < ((64 : Nat) : Int) then ((ldI .u32 (k5.add ((Int.toNat t22) * 1)) w.drew).bind fun v_35 =>
  (ldI .u32 (w7.add ((Int.toNat t22) * 1)) w.drew).bind fun v_36 =>
  rec h3 k5 a6 w7 (IntKind.u32.wrap ((IntKind.u32.wrap ((IntKind.u32.wrap ((IntKind.u32.wrap ((IntKind.u32.wrap (z21 + (bits .xor .u32 (bits .xor .u32 (bits .or .u32 (Int.fdiv e18 (2 ^ 6)) (IntKind.u32.wrap (e18 * 2 ^ 26))) (bits .or .u32 (Int.fdiv e18 (2 ^ 11)) (IntKind.u32.wrap (e18 * 2 ^ 21)))) (bits .or .u32 (Int.fdiv e18 (2 ^ 25)) (IntKind.u32.wrap (e18 * 2 ^ 7)))))) + (bits .or .u32 (bits .and .u32 e18 f19) (bits .and .u32 (bits .xor .u32 IntKind.u32.max e18) g20)))) + v_35)) + v_36)) + (IntKind.u32.wrap ((bits .xor .u32 (bits .xor .u32 (bits .or .u32 (Int.fdiv a14 (2 ^ 2)) (IntKind.u32.wrap (a14 * 2 ^ 30))) (bits .or .u32 (Int.fdiv a14 (2 ^ 13)) (IntKind.u32.wrap (a14 * 2 ^ 19)))) (bits .or .u32 (Int.fdiv a14 (2 ^ 22)) (IntKind.u32.wrap (a14 * 2 ^ 10)))) + (bits .or .u32 (bits .or .u32 (bits .and .u32 a14 b15) (bits .and .u32 a14 c16)) (bits .and .u32 b15 c16)))))) a14 b15 c16 (IntKind.u32.wrap (d17 + (IntKind.u32.wrap ((IntKind.u32.wrap ((IntKind.u32.wrap ((IntKind.u32.wrap (z21 + (bits .xor .u32 (bits .xor .u32 (bits .or .u32 (Int.fdiv e18 (2 ^ 6)) (IntKind.u32.wrap (e18 * 2 ^ 26))) (bits .or .u32 (Int.fdiv e18 (2 ^ 11)) (IntKind.u32.wrap (e18 * 2 ^ 21)))) (bits .or .u32 (Int.fdiv e18 (2 ^ 25)) (IntKind.u32.wrap (e18 * 2 ^ 7)))))) + (bits .or .u32 (bits .and .u32 e18 f19) (bits .and .u32 (bits .xor .u32 IntKind.u32.max e18) g20)))) + v_35)) + v_36)))) e18 f19 g20 (IntKind.i64.wrap (t22 + 1)) w.drew) else none) else none) else (some ((a14, b15, c16, d17, e18, f19, g20, z21, ()), w))
noncomputable def ref01_taken32_l2 (K : Nat) (n : Nat) : Addr → Addr → Addr → Addr → Int → Int → Int → Int → Int → Int → Int → Int → Int → World → Option ((Int × Int × Int × Int × Int × Int × Int × Int × Unit) × World) := iter (fun _ _ _ _ _ _ _ _ _ _ _ _ _ _ => none) (ref01_taken32_l2_b K) n
/-- coffer/cofferref01.taken32 -/
noncomputable def ref01_taken32 (K : Nat) (h0 : Array Value) (block1 : Sl) (k2 : Array Value) (w : World) : Option (((Array Value) × Unit) × World) :=
  bnd (newB h0 176 w) fun p_1 w_2 =>
  bnd (newB k2 174 w_2) fun p_3 w_4 =>
  bnd (newB z176 176 w_4) fun p_5 w_6 =>
  bnd (newB z174 174 w_6) fun w_7 w_8 =>
  bnd (ref01_taken32_l0 K K block1 p_1 p_3 p_5 w_7 0 w_8) fun y_18 w_19 =>
  bnd (ref01_taken32_l1 K K p_1 p_3 p_5 w_7 16 w_19) fun y_25 w_26 =>
  (ldI .u32 (p_1.add (0 * 1)) w_26.drew).bind fun v_27 =>
  (ldI .u32 (p_1.add (1 * 1)) w_26.drew).bind fun v_28 =>
  (ldI .u32 (p_1.add (2 * 1)) w_26.drew).bind fun v_29 =>
  (ldI .u32 (p_1.add (3 * 1)) w_26.drew).bind fun v_30 =>
  (ldI .u32 (p_1.add (4 * 1)) w_26.drew.drew).bind fun v_31 =>
  (ldI .u32 (p_1.add (5 * 1)) w_26.drew.drew).bind fun v_32 =>
  (ldI .u32 (p_1.add (6 * 1)) w_26.drew.drew).bind fun v_33 =>
  (ldI .u32 (p_1.add (7 * 1)) w_26.drew.drew).bind fun v_34 =>
  bnd (ref01_taken32_l2 K K p_1 p_3 p_5 w_7 v_27 v_28 v_29 v_30 v_31 v_32 v_33 v_34 0 w_26.drew.drew) fun y_37 w_38 =>
  (ldI .u32 (p_1.add (0 * 1)) w_38).bind fun v_39 =>
  (ldI .u32 (p_1.add (1 * 1)) w_38).bind fun v_40 =>
  (ldI .u32 (p_1.add (2 * 1)) w_38).bind fun v_41 =>
  (ldI .u32 (p_1.add (3 * 1)) w_38).bind fun v_42 =>
  (ldI .u32 (p_1.add (4 * 1)) w_38).bind fun v_43 =>
  (ldI .u32 (p_1.add (5 * 1)) w_38).bind fun v_44 =>
  (ldI .u32 (p_1.add (6 * 1)) w_38).bind fun v_45 =>
  (ldI .u32 (p_1.add (7 * 1)) w_38).bind fun v_46 =>
  (prog.built 176 [(0, (.int .u32 (IntKind.u32.wrap (v_39 + y_37.1)))), (1, (.int .u32 (IntKind.u32.wrap (v_40 + y_37.2.1)))), (2, (.int .u32 (IntKind.u32.wrap (v_41 + y_37.2.2.1)))), (3, (.int .u32 (IntKind.u32.wrap (v_42 + y_37.2.2.2.1)))), (4, (.int .u32 (IntKind.u32.wrap (v_43 + y_37.2.2.2.2.1)))), (5, (.int .u32 (IntKind.u32.wrap (v_44 + y_37.2.2.2.2.2.1)))), (6, (.int .u32 (IntKind.u32.wrap (v_45 + y_37.2.2.2.2.2.2.1)))), (7, (.int .u32 (IntKind.u32.wrap (v_46 + y_37.2.2.2.2.2.2.2.1))))]).bind fun cs_47 =>
  if (cs_47).size = 8 then ((stA p_5 cs_47 w_38).bind fun w_48 =>
  (ldA 8 p_5 w_48).bind fun res_49 =>
  some ((res_49, ()), w_48)) else none
theorem ref01_taken32_l0_ok (K : Nat) (n : Nat) : StmtNOk prog [(1, .sl), (3, .addr), (5, .addr), (6, .addr), (7, .addr), (8, .int .i64)] [] [(8, 9), (27, 66)] ((fun n x w => ref01_taken32_l0 K n x.1 x.2.1 x.2.2.1 x.2.2.2.1 x.2.2.2.2.1 x.2.2.2.2.2.1 w) n) (.block 0 (.loop (cd (bodyOf f125) [1, 1, 0, 1, 0, 0]))) :=
    mk_loopN (O := tabL []) (root := (bodyOf f125)) (π := [1, 1, 0, 1, 0, 0]) (id := 0) (Li := [(1, .sl), (3, .addr), (5, .addr), (6, .addr), (7, .addr), (8, .int .i64)]) (Lo := []) (S := (fun n x w => ref01_taken32_l0 K n x.1 x.2.1 x.2.2.1 x.2.2.2.1 x.2.2.2.2.1 x.2.2.2.2.2.1 w)) (body := cd (bodyOf f125) [1, 1, 0, 1, 0, 0]) (ref01_taken32_Eok K) (ref01_taken32_Rok K) rfl (Orc.nil _ _ _) (by kernel_rfl) (fun _ _ => by kernel_rfl) (fun _ _ _ => by kernel_rfl) n
noncomputable def ref01_taken32_l0_se (K : Nat) : SE := stmtN [(1, .sl), (3, .addr), (5, .addr), (6, .addr), (7, .addr), (8, .int .i64)] [] [(8, 9), (27, 66)] (fun x w => ref01_taken32_l0 K K x.1 x.2.1 x.2.2.1 x.2.2.2.1 x.2.2.2.2.1 x.2.2.2.2.2.1 w)
theorem ref01_taken32_l0_se_ok (K : Nat) (R : Rg) (h : subRB [(8, 9), (27, 66)] R = true) : (ref01_taken32_l0_se K).Ok prog R (.block 0 (.loop (cd (bodyOf f125) [1, 1, 0, 1, 0, 0]))) := stmtN_ok (Li := [(1, .sl), (3, .addr), (5, .addr), (6, .addr), (7, .addr), (8, .int .i64)]) (Lo := []) (S := (fun x w => ref01_taken32_l0 K K x.1 x.2.1 x.2.2.1 x.2.2.2.1 x.2.2.2.2.1 x.2.2.2.2.2.1 w)) (ref01_taken32_l0_ok K K) (subR_of h)
theorem ref01_taken32_l1_ok (K : Nat) (n : Nat) : StmtNOk prog [(3, .addr), (5, .addr), (6, .addr), (7, .addr), (9, .int .i64)] [] [(9, 14), (66, 121)] ((fun n x w => ref01_taken32_l1 K n x.1 x.2.1 x.2.2.1 x.2.2.2.1 x.2.2.2.2.1 w) n) (.block 2 (.loop (cd (bodyOf f125) [1, 1, 1, 0, 1, 0, 0]))) :=
    mk_loopN (O := tabL []) (root := (bodyOf f125)) (π := [1, 1, 1, 0, 1, 0, 0]) (id := 2) (Li := [(3, .addr), (5, .addr), (6, .addr), (7, .addr), (9, .int .i64)]) (Lo := []) (S := (fun n x w => ref01_taken32_l1 K n x.1 x.2.1 x.2.2.1 x.2.2.2.1 x.2.2.2.2.1 w)) (body := cd (bodyOf f125) [1, 1, 1, 0, 1, 0, 0]) (ref01_taken32_Eok K) (ref01_taken32_Rok K) rfl (Orc.nil _ _ _) (by kernel_rfl) (fun _ _ => by kernel_rfl) (fun _ _ _ => by kernel_rfl) n
noncomputable def ref01_taken32_l1_se (K : Nat) : SE := stmtN [(3, .addr), (5, .addr), (6, .addr), (7, .addr), (9, .int .i64)] [] [(9, 14), (66, 121)] (fun x w => ref01_taken32_l1 K K x.1 x.2.1 x.2.2.1 x.2.2.2.1 x.2.2.2.2.1 w)
theorem ref01_taken32_l1_se_ok (K : Nat) (R : Rg) (h : subRB [(9, 14), (66, 121)] R = true) : (ref01_taken32_l1_se K).Ok prog R (.block 2 (.loop (cd (bodyOf f125) [1, 1, 1, 0, 1, 0, 0]))) := stmtN_ok (Li := [(3, .addr), (5, .addr), (6, .addr), (7, .addr), (9, .int .i64)]) (Lo := []) (S := (fun x w => ref01_taken32_l1 K K x.1 x.2.1 x.2.2.1 x.2.2.2.1 x.2.2.2.2.1 w)) (ref01_taken32_l1_ok K K) (subR_of h)
theorem ref01_taken32_l2_ok (K : Nat) (n : Nat) : StmtNOk prog [(3, .addr), (5, .addr), (6, .addr), (7, .addr), (14, .int .u32), (15, .int .u32), (16, .int .u32), (17, .int .u32), (18, .int .u32), (19, .int .u32), (20, .int .u32), (21, .int .u32), (22, .int .i64)] [(14, .int .u32), (15, .int .u32), (16, .int .u32), (17, .int .u32), (18, .int .u32), (19, .int .u32), (20, .int .u32), (21, .int .u32)] [(14, 27), (137, 220)] ((fun n x w => ref01_taken32_l2 K n x.1 x.2.1 x.2.2.1 x.2.2.2.1 x.2.2.2.2.1 x.2.2.2.2.2.1 x.2.2.2.2.2.2.1 x.2.2.2.2.2.2.2.1 x.2.2.2.2.2.2.2.2.1 x.2.2.2.2.2.2.2.2.2.1 x.2.2.2.2.2.2.2.2.2.2.1 x.2.2.2.2.2.2.2.2.2.2.2.1 x.2.2.2.2.2.2.2.2.2.2.2.2.1 w) n) (.block 4 (.loop (cd (bodyOf f125) [1, 1, 1, 1, 1, 1, 0, 1, 0, 0]))) :=
    mk_loopN (O := tabL []) (root := (bodyOf f125)) (π := [1, 1, 1, 1, 1, 1, 0, 1, 0, 0]) (id := 4) (Li := [(3, .addr), (5, .addr), (6, .addr), (7, .addr), (14, .int .u32), (15, .int .u32), (16, .int .u32), (17, .int .u32), (18, .int .u32), (19, .int .u32), (20, .int .u32), (21, .int .u32), (22, .int .i64)]) (Lo := [(14, .int .u32), (15, .int .u32), (16, .int .u32), (17, .int .u32), (18, .int .u32), (19, .int .u32), (20, .int .u32), (21, .int .u32)]) (S := (fun n x w => ref01_taken32_l2 K n x.1 x.2.1 x.2.2.1 x.2.2.2.1 x.2.2.2.2.1 x.2.2.2.2.2.1 x.2.2.2.2.2.2.1 x.2.2.2.2.2.2.2.1 x.2.2.2.2.2.2.2.2.1 x.2.2.2.2.2.2.2.2.2.1 x.2.2.2.2.2.2.2.2.2.2.1 x.2.2.2.2.2.2.2.2.2.2.2.1 x.2.2.2.2.2.2.2.2.2.2.2.2.1 w)) (body := cd (bodyOf f125) [1, 1, 1, 1, 1, 1, 0, 1, 0, 0]) (ref01_taken32_Eok K) (ref01_taken32_Rok K) rfl (Orc.nil _ _ _) (by kernel_rfl) (fun _ _ => by kernel_rfl) (fun _ _ _ => by kernel_rfl) n
noncomputable def ref01_taken32_l2_se (K : Nat) : SE := stmtN [(3, .addr), (5, .addr), (6, .addr), (7, .addr), (14, .int .u32), (15, .int .u32), (16, .int .u32), (17, .int .u32), (18, .int .u32), (19, .int .u32), (20, .int .u32), (21, .int .u32), (22, .int .i64)] [(14, .int .u32), (15, .int .u32), (16, .int .u32), (17, .int .u32), (18, .int .u32), (19, .int .u32), (20, .int .u32), (21, .int .u32)] [(14, 27), (137, 220)] (fun x w => ref01_taken32_l2 K K x.1 x.2.1 x.2.2.1 x.2.2.2.1 x.2.2.2.2.1 x.2.2.2.2.2.1 x.2.2.2.2.2.2.1 x.2.2.2.2.2.2.2.1 x.2.2.2.2.2.2.2.2.1 x.2.2.2.2.2.2.2.2.2.1 x.2.2.2.2.2.2.2.2.2.2.1 x.2.2.2.2.2.2.2.2.2.2.2.1 x.2.2.2.2.2.2.2.2.2.2.2.2.1 w)
theorem ref01_taken32_l2_se_ok (K : Nat) (R : Rg) (h : subRB [(14, 27), (137, 220)] R = true) : (ref01_taken32_l2_se K).Ok prog R (.block 4 (.loop (cd (bodyOf f125) [1, 1, 1, 1, 1, 1, 0, 1, 0, 0]))) := stmtN_ok (Li := [(3, .addr), (5, .addr), (6, .addr), (7, .addr), (14, .int .u32), (15, .int .u32), (16, .int .u32), (17, .int .u32), (18, .int .u32), (19, .int .u32), (20, .int .u32), (21, .int .u32), (22, .int .i64)]) (Lo := [(14, .int .u32), (15, .int .u32), (16, .int .u32), (17, .int .u32), (18, .int .u32), (19, .int .u32), (20, .int .u32), (21, .int .u32)]) (S := (fun x w => ref01_taken32_l2 K K x.1 x.2.1 x.2.2.1 x.2.2.2.1 x.2.2.2.2.1 x.2.2.2.2.2.1 x.2.2.2.2.2.2.1 x.2.2.2.2.2.2.2.1 x.2.2.2.2.2.2.2.2.1 x.2.2.2.2.2.2.2.2.2.1 x.2.2.2.2.2.2.2.2.2.2.1 x.2.2.2.2.2.2.2.2.2.2.2.1 x.2.2.2.2.2.2.2.2.2.2.2.2.1 w)) (ref01_taken32_l2_ok K K) (subR_of h)
theorem ref01_taken32_facts : FunFacts prog 125 f125 (bodyOf f125) [(0, .agg), (1, .sl), (2, .agg)] [(0, 253)] := ⟨func125, by kernel_rfl, by kernel_rfl, by kernel_rfl, by kernel_rfl, by kernel_rfl⟩
theorem ref01_taken32_calls (K : Nat) (x : TT [(0, .agg), (1, .sl), (2, .agg)]) (w : World) (y : TR [.agg]) (w2 : World) (h : ref01_taken32 K x.1 x.2.1 x.2.2.1 w = some (y, w2)) : Calls prog 125 (encA [(0, .agg), (1, .sl), (2, .agg)] x).toArray w (fun e w3 => e = .returned (resV (encR [.agg] y)) ∧ w3 = w2) :=
    mk_fun (O := tabL [([1, 1, 0, 1], ref01_taken32_l0_se K), ([1, 1, 1, 0, 1], ref01_taken32_l1_se K), ([1, 1, 1, 1, 1, 1, 0, 1], ref01_taken32_l2_se K)]) (Lp := [(0, .agg), (1, .sl), (2, .agg)]) (Rt := [.agg]) (S := (fun x w => ref01_taken32 K x.1 x.2.1 x.2.2.1 w)) (ref01_taken32_Eok K) (ref01_taken32_Rok K) rfl ref01_taken32_facts (Orc.cons (by kernel_rfl) (ref01_taken32_l0_se_ok K [(0, 253)] (by kernel_rfl)) (Orc.cons (by kernel_rfl) (ref01_taken32_l1_se_ok K [(0, 253)] (by kernel_rfl)) (Orc.cons (by kernel_rfl) (ref01_taken32_l2_se_ok K [(0, 253)] (by kernel_rfl)) (Orc.nil _ _ _)))) (fun _ _ => by kernel_rfl) x w y w2 h
noncomputable def ref01_taken32_ce (K : Nat) : CE := funE [(0, .agg), (1, .sl), (2, .agg)] [.agg] (fun x w => ref01_taken32 K x.1 x.2.1 x.2.2.1 w)
theorem ref01_taken32_ok (K : Nat) : (ref01_taken32_ce K).Ok prog 125 := funE_ok (Rt := [.agg]) (S := (fun x w => ref01_taken32 K x.1 x.2.1 x.2.2.1 w)) ref01_taken32_facts fun x w y w2 h => ref01_taken32_calls K x w y w2 h

noncomputable def ref01_narrow_E (K : Nat) : List (Nat × CE) := [(125, ref01_taken32_ce K)]
theorem ref01_narrow_Eok (K : Nat) : Env.Ok prog (tab (ref01_narrow_E K)) := (Env.cons (ref01_taken32_ok K) (Env.nil _))
noncomputable def ref01_narrow_R (K : Nat) : List (Nat × RE) := []
theorem ref01_narrow_Rok (K : Nat) : REnv.Ok prog (tab (ref01_narrow_R K)) := (REnv.nil _)
noncomputable def ref01_narrow_l0_b (K : Nat) (rec : Sl → Addr → Addr → Addr → Int → World → Option ((Unit) × World)) (p1 : Sl) (h2 : Addr) (a4 : Addr) (k5 : Addr) (t6 : Int) (w : World) : Option ((Unit) × World) :=
  if (decide (t6 < 64)) = true then (if (0 : Int) ≤ t6 ∧ t6 < ((80 : Nat) : Int) then ((ldI .u64 ((⟨2, 0, none⟩ : Addr).add ((Int.toNat t6) * 1)) w).bind fun v_7 =>
  if (0 : Int) ≤ t6 ∧ t6 < ((64 : Nat) : Int) then ((stC (k5.add ((Int.toNat t6) * 1)) (.int .u32 (IntKind.u32.wrap (Int.fdiv v_7 (2 ^ 32)))) w).bind fun w_8 =>
  rec p1 h2 a4 k5 (IntKind.i64.wrap (t6 + 1)) w_8) else none) else none) else (some ((), w))
noncomputable def ref01_narrow_l0 (K : Nat) (n : Nat) : Sl → Addr → Addr → Addr → Int → World → Option ((Unit) × World) := iter (fun _ _ _ _ _ _ => none) (ref01_narrow_l0_b K) n
noncomputable def ref01_narrow_l1_b (K : Nat) (rec : Sl → Addr → Addr → Addr → Addr → Int → World → Option ((Unit) × World)) (p1 : Sl) (h2 : Addr) (a4 : Addr) (k5 : Addr) (v7 : Addr) (i8 : Int) (w : World) : Option ((Unit) × World) :=
  if (decide (i8 < 8)) = true then (if (0 : Int) ≤ i8 ∧ i8 < ((8 : Nat) : Int) then ((ldI .u64 (h2.add ((Int.toNat i8) * 1)) w).bind fun v_13 =>
  if (0 : Int) ≤ i8 ∧ i8 < ((8 : Nat) : Int) then ((stC (v7.add ((Int.toNat i8) * 1)) (.int .u32 (IntKind.u32.wrap v_13)) w).bind fun w_14 =>
  rec p1 h2 a4 k5 v7 (IntKind.i64.wrap (i8 + 1)) w_14) else none) else none) else (some ((), w))
noncomputable def ref01_narrow_l1 (K : Nat) (n : Nat) : Sl → Addr → Addr → Addr → Addr → Int → World → Option ((Unit) × World) := iter (fun _ _ _ _ _ _ _ => none) (ref01_narrow_l1_b K) n
noncomputable def ref01_narrow_l2_b (K : Nat) (rec : Sl → Addr → Addr → Addr → Addr → Int → World → Option ((Unit) × World)) (p1 : Sl) (h2 : Addr) (a4 : Addr) (k5 : Addr) (v7 : Addr) (i9 : Int) (w : World) : Option ((Unit) × World) :=
  if (decide (i9 < ((p1.len : Nat) : Int))) = true then (if (0 : Int) ≤ (IntKind.i64.wrap (i9 + 64)) ∧ (IntKind.i64.wrap (i9 + 64)) ≤ ((p1.cap : Nat) : Int) then (if (0 : Int) ≤ i9 ∧ i9 ≤ (((Int.toNat ((IntKind.i64.wrap (i9 + 64)))) : Nat) : Int) then ((ldA 8 v7 w.drew).bind fun v_17 =>
  (ldA 64 k5 w.drew).bind fun v_18 =>
  bnd (ref01_taken32 K v_17 ⟨(sla p1.a (Int.toNat (i9)) p1.cap 1), ((Int.toNat ((IntKind.i64.wrap (i9 + 64)))) - (Int.toNat (i9))), (p1.cap - (Int.toNat (i9)))⟩ v_18 w.drew) fun r_19 w_20 =>
  if (r_19.1).size = 8 then ((stA v7 r_19.1 w_20).bind fun w_21 =>
  rec p1 h2 a4 k5 v7 (IntKind.i64.wrap (i9 + 64)) w_21) else none) else none) else none) else (some ((), w))
noncomputable def ref01_narrow_l2 (K : Nat) (n : Nat) : Sl → Addr → Addr → Addr → Addr → Int → World → Option ((Unit) × World) := iter (fun _ _ _ _ _ _ _ => none) (ref01_narrow_l2_b K) n
noncomputable def ref01_narrow_l3_b (K : Nat) (rec : Addr → Addr → Addr → Int → World → Option ((Unit) × World)) (h2 : Addr) (a4 : Addr) (v7 : Addr) (i10 : Int) (w : World) : Option ((Unit) × World) :=
  if (decide (i10 < 8)) = true then (if (0 : Int) ≤ i10 ∧ i10 < ((8 : Nat) : Int) then ((ldI .u32 (v7.add ((Int.toNat i10) * 1)) w).bind fun v_24 =>
  if (0 : Int) ≤ i10 ∧ i10 < ((8 : Nat) : Int) then ((stC (h2.add ((Int.toNat i10) * 1)) (.int .u64 (IntKind.u64.wrap v_24)) w).bind fun w_25 =>
  rec h2 a4 v7 (IntKind.i64.wrap (i10 + 1)) w_25) else none) else none) else (some ((), w))
noncomputable def ref01_narrow_l3 (K : Nat) (n : Nat) : Addr → Addr → Addr → Int → World → Option ((Unit) × World) := iter (fun _ _ _ _ _ => none) (ref01_narrow_l3_b K) n
/-- coffer/cofferref01.narrow -/
noncomputable def ref01_narrow (K : Nat) (h0 : Array Value) (p1 : Sl) (w : World) : Option (((Array Value) × Unit) × World) :=
  bnd (newB h0 150 w) fun p_1 w_2 =>
  bnd (newB z150 150 w_2) fun p_3 w_4 =>
  bnd (newB z174 174 w_4) fun k_5 w_6 =>
  bnd (ref01_narrow_l0 K K p1 p_1 p_3 k_5 0 w_6) fun y_9 w_10 =>
  bnd (newB z176 176 w_10) fun v_11 w_12 =>
  bnd (ref01_narrow_l1 K K p1 p_1 p_3 k_5 v_11 0 w_12) fun y_15 w_16 =>
  bnd (ref01_narrow_l2 K K p1 p_1 p_3 k_5 v_11 0 w_16) fun y_22 w_23 =>
  bnd (ref01_narrow_l3 K K p_1 p_3 v_11 0 w_23) fun y_26 w_27 =>
  (ldA 8 p_1 w_27).bind fun v_28 =>
  if (v_28).size = 8 then ((stA p_3 v_28 w_27).bind fun w_29 =>
  (ldA 8 p_3 w_29).bind fun res_30 =>
  some ((res_30, ()), w_29)) else none
theorem ref01_narrow_l0_ok (K : Nat) (n : Nat) : StmtNOk prog [(1, .sl), (2, .addr), (4, .addr), (5, .addr), (6, .int .i64)] [] [(6, 7), (11, 22)] ((fun n x w => ref01_narrow_l0 K n x.1 x.2.1 x.2.2.1 x.2.2.2.1 x.2.2.2.2.1 w) n) (.block 0 (.loop (cd (bodyOf f100) [1, 1, 0, 1, 0, 0]))) :=
    mk_loopN (O := tabL []) (root := (bodyOf f100)) (π := [1, 1, 0, 1, 0, 0]) (id := 0) (Li := [(1, .sl), (2, .addr), (4, .addr), (5, .addr), (6, .int .i64)]) (Lo := []) (S := (fun n x w => ref01_narrow_l0 K n x.1 x.2.1 x.2.2.1 x.2.2.2.1 x.2.2.2.2.1 w)) (body := cd (bodyOf f100) [1, 1, 0, 1, 0, 0]) (ref01_narrow_Eok K) (ref01_narrow_Rok K) rfl (Orc.nil _ _ _) (by kernel_rfl) (fun _ _ => by kernel_rfl) (fun _ _ _ => by kernel_rfl) n
noncomputable def ref01_narrow_l0_se (K : Nat) : SE := stmtN [(1, .sl), (2, .addr), (4, .addr), (5, .addr), (6, .int .i64)] [] [(6, 7), (11, 22)] (fun x w => ref01_narrow_l0 K K x.1 x.2.1 x.2.2.1 x.2.2.2.1 x.2.2.2.2.1 w)
theorem ref01_narrow_l0_se_ok (K : Nat) (R : Rg) (h : subRB [(6, 7), (11, 22)] R = true) : (ref01_narrow_l0_se K).Ok prog R (.block 0 (.loop (cd (bodyOf f100) [1, 1, 0, 1, 0, 0]))) := stmtN_ok (Li := [(1, .sl), (2, .addr), (4, .addr), (5, .addr), (6, .int .i64)]) (Lo := []) (S := (fun x w => ref01_narrow_l0 K K x.1 x.2.1 x.2.2.1 x.2.2.2.1 x.2.2.2.2.1 w)) (ref01_narrow_l0_ok K K) (subR_of h)
theorem ref01_narrow_l1_ok (K : Nat) (n : Nat) : StmtNOk prog [(1, .sl), (2, .addr), (4, .addr), (5, .addr), (7, .addr), (8, .int .i64)] [] [(8, 9), (22, 32)] ((fun n x w => ref01_narrow_l1 K n x.1 x.2.1 x.2.2.1 x.2.2.2.1 x.2.2.2.2.1 x.2.2.2.2.2.1 w) n) (.block 2 (.loop (cd (bodyOf f100) [1, 1, 1, 1, 0, 1, 0, 0]))) :=
    mk_loopN (O := tabL []) (root := (bodyOf f100)) (π := [1, 1, 1, 1, 0, 1, 0, 0]) (id := 2) (Li := [(1, .sl), (2, .addr), (4, .addr), (5, .addr), (7, .addr), (8, .int .i64)]) (Lo := []) (S := (fun n x w => ref01_narrow_l1 K n x.1 x.2.1 x.2.2.1 x.2.2.2.1 x.2.2.2.2.1 x.2.2.2.2.2.1 w)) (body := cd (bodyOf f100) [1, 1, 1, 1, 0, 1, 0, 0]) (ref01_narrow_Eok K) (ref01_narrow_Rok K) rfl (Orc.nil _ _ _) (by kernel_rfl) (fun _ _ => by kernel_rfl) (fun _ _ _ => by kernel_rfl) n
noncomputable def ref01_narrow_l1_se (K : Nat) : SE := stmtN [(1, .sl), (2, .addr), (4, .addr), (5, .addr), (7, .addr), (8, .int .i64)] [] [(8, 9), (22, 32)] (fun x w => ref01_narrow_l1 K K x.1 x.2.1 x.2.2.1 x.2.2.2.1 x.2.2.2.2.1 x.2.2.2.2.2.1 w)
theorem ref01_narrow_l1_se_ok (K : Nat) (R : Rg) (h : subRB [(8, 9), (22, 32)] R = true) : (ref01_narrow_l1_se K).Ok prog R (.block 2 (.loop (cd (bodyOf f100) [1, 1, 1, 1, 0, 1, 0, 0]))) := stmtN_ok (Li := [(1, .sl), (2, .addr), (4, .addr), (5, .addr), (7, .addr), (8, .int .i64)]) (Lo := []) (S := (fun x w => ref01_narrow_l1 K K x.1 x.2.1 x.2.2.1 x.2.2.2.1 x.2.2.2.2.1 x.2.2.2.2.2.1 w)) (ref01_narrow_l1_ok K K) (subR_of h)
theorem ref01_narrow_l2_ok (K : Nat) (n : Nat) : StmtNOk prog [(1, .sl), (2, .addr), (4, .addr), (5, .addr), (7, .addr), (9, .int .i64)] [] [(9, 10), (32, 46)] ((fun n x w => ref01_narrow_l2 K n x.1 x.2.1 x.2.2.1 x.2.2.2.1 x.2.2.2.2.1 x.2.2.2.2.2.1 w) n) (.block 4 (.loop (cd (bodyOf f100) [1, 1, 1, 1, 1, 0, 1, 0, 0]))) :=
    mk_loopN (O := tabL []) (root := (bodyOf f100)) (π := [1, 1, 1, 1, 1, 0, 1, 0, 0]) (id := 4) (Li := [(1, .sl), (2, .addr), (4, .addr), (5, .addr), (7, .addr), (9, .int .i64)]) (Lo := []) (S := (fun n x w => ref01_narrow_l2 K n x.1 x.2.1 x.2.2.1 x.2.2.2.1 x.2.2.2.2.1 x.2.2.2.2.2.1 w)) (body := cd (bodyOf f100) [1, 1, 1, 1, 1, 0, 1, 0, 0]) (ref01_narrow_Eok K) (ref01_narrow_Rok K) rfl (Orc.nil _ _ _) (by kernel_rfl) (fun _ _ => by kernel_rfl) (fun _ _ _ => by kernel_rfl) n
noncomputable def ref01_narrow_l2_se (K : Nat) : SE := stmtN [(1, .sl), (2, .addr), (4, .addr), (5, .addr), (7, .addr), (9, .int .i64)] [] [(9, 10), (32, 46)] (fun x w => ref01_narrow_l2 K K x.1 x.2.1 x.2.2.1 x.2.2.2.1 x.2.2.2.2.1 x.2.2.2.2.2.1 w)
theorem ref01_narrow_l2_se_ok (K : Nat) (R : Rg) (h : subRB [(9, 10), (32, 46)] R = true) : (ref01_narrow_l2_se K).Ok prog R (.block 4 (.loop (cd (bodyOf f100) [1, 1, 1, 1, 1, 0, 1, 0, 0]))) := stmtN_ok (Li := [(1, .sl), (2, .addr), (4, .addr), (5, .addr), (7, .addr), (9, .int .i64)]) (Lo := []) (S := (fun x w => ref01_narrow_l2 K K x.1 x.2.1 x.2.2.1 x.2.2.2.1 x.2.2.2.2.1 x.2.2.2.2.2.1 w)) (ref01_narrow_l2_ok K K) (subR_of h)
theorem ref01_narrow_l3_ok (K : Nat) (n : Nat) : StmtNOk prog [(2, .addr), (4, .addr), (7, .addr), (10, .int .i64)] [] [(10, 11), (46, 56)] ((fun n x w => ref01_narrow_l3 K n x.1 x.2.1 x.2.2.1 x.2.2.2.1 w) n) (.block 6 (.loop (cd (bodyOf f100) [1, 1, 1, 1, 1, 1, 0, 1, 0, 0]))) :=
    mk_loopN (O := tabL []) (root := (bodyOf f100)) (π := [1, 1, 1, 1, 1, 1, 0, 1, 0, 0]) (id := 6) (Li := [(2, .addr), (4, .addr), (7, .addr), (10, .int .i64)]) (Lo := []) (S := (fun n x w => ref01_narrow_l3 K n x.1 x.2.1 x.2.2.1 x.2.2.2.1 w)) (body := cd (bodyOf f100) [1, 1, 1, 1, 1, 1, 0, 1, 0, 0]) (ref01_narrow_Eok K) (ref01_narrow_Rok K) rfl (Orc.nil _ _ _) (by kernel_rfl) (fun _ _ => by kernel_rfl) (fun _ _ _ => by kernel_rfl) n
noncomputable def ref01_narrow_l3_se (K : Nat) : SE := stmtN [(2, .addr), (4, .addr), (7, .addr), (10, .int .i64)] [] [(10, 11), (46, 56)] (fun x w => ref01_narrow_l3 K K x.1 x.2.1 x.2.2.1 x.2.2.2.1 w)
theorem ref01_narrow_l3_se_ok (K : Nat) (R : Rg) (h : subRB [(10, 11), (46, 56)] R = true) : (ref01_narrow_l3_se K).Ok prog R (.block 6 (.loop (cd (bodyOf f100) [1, 1, 1, 1, 1, 1, 0, 1, 0, 0]))) := stmtN_ok (Li := [(2, .addr), (4, .addr), (7, .addr), (10, .int .i64)]) (Lo := []) (S := (fun x w => ref01_narrow_l3 K K x.1 x.2.1 x.2.2.1 x.2.2.2.1 w)) (ref01_narrow_l3_ok K K) (subR_of h)
theorem ref01_narrow_facts : FunFacts prog 100 f100 (bodyOf f100) [(0, .agg), (1, .sl)] [(0, 57)] := ⟨func100, by kernel_rfl, by kernel_rfl, by kernel_rfl, by kernel_rfl, by kernel_rfl⟩
theorem ref01_narrow_calls (K : Nat) (x : TT [(0, .agg), (1, .sl)]) (w : World) (y : TR [.agg]) (w2 : World) (h : ref01_narrow K x.1 x.2.1 w = some (y, w2)) : Calls prog 100 (encA [(0, .agg), (1, .sl)] x).toArray w (fun e w3 => e = .returned (resV (encR [.agg] y)) ∧ w3 = w2) :=
    mk_fun (O := tabL [([1, 1, 0, 1], ref01_narrow_l0_se K), ([1, 1, 1, 1, 0, 1], ref01_narrow_l1_se K), ([1, 1, 1, 1, 1, 0, 1], ref01_narrow_l2_se K), ([1, 1, 1, 1, 1, 1, 0, 1], ref01_narrow_l3_se K)]) (Lp := [(0, .agg), (1, .sl)]) (Rt := [.agg]) (S := (fun x w => ref01_narrow K x.1 x.2.1 w)) (ref01_narrow_Eok K) (ref01_narrow_Rok K) rfl ref01_narrow_facts (Orc.cons (by kernel_rfl) (ref01_narrow_l0_se_ok K [(0, 57)] (by kernel_rfl)) (Orc.cons (by kernel_rfl) (ref01_narrow_l1_se_ok K [(0, 57)] (by kernel_rfl)) (Orc.cons (by kernel_rfl) (ref01_narrow_l2_se_ok K [(0, 57)] (by kernel_rfl)) (Orc.cons (by kernel_rfl) (ref01_narrow_l3_se_ok K [(0, 57)] (by kernel_rfl)) (Orc.nil _ _ _))))) (fun _ _ => by kernel_rfl) x w y w2 h
noncomputable def ref01_narrow_ce (K : Nat) : CE := funE [(0, .agg), (1, .sl)] [.agg] (fun x w => ref01_narrow K x.1 x.2.1 w)
theorem ref01_narrow_ok (K : Nat) : (ref01_narrow_ce K).Ok prog 100 := funE_ok (Rt := [.agg]) (S := (fun x w => ref01_narrow K x.1 x.2.1 w)) ref01_narrow_facts fun x w y w2 h => ref01_narrow_calls K x w y w2 h

end Go.Sh

/- What functions of the program do, as Lean functions; that the machine does just that. Printed by shal.py, a program of this claim's writer. -/
set_option maxRecDepth 100000
set_option linter.unusedVariables false
namespace Go.Sh
open Go.Fw Go.Proofs.Tryd

noncomputable def ref01_taken64_E (K : Nat) : List (Nat × CE) := []
theorem ref01_taken64_Eok (K : Nat) : Env.Ok prog (tab (ref01_taken64_E K)) := (Env.nil _)
noncomputable def ref01_taken64_R (K : Nat) : List (Nat × RE) := []
theorem ref01_taken64_Rok (K : Nat) : REnv.Ok prog (tab (ref01_taken64_R K)) := (REnv.nil _)
noncomputable def ref01_taken64_l1_b (K : Nat) (rec : Sl → Addr → Addr → Addr → Int → Int → World → Option ((Unit) × World)) (block1 : Sl) (h2 : Addr) (a4 : Addr) (w5 : Addr) (t6 : Int) (i7 : Int) (w : World) : Option ((Unit) × World) :=
  if (decide (i7 < 8)) = true then (if (0 : Int) ≤ t6 ∧ t6 < ((80 : Nat) : Int) then ((block1.a).bind fun p_7 =>
  if (0 : Int) ≤ (IntKind.i64.wrap ((IntKind.i64.wrap (8 * t6)) + i7)) ∧ (IntKind.i64.wrap ((IntKind.i64.wrap (8 * t6)) + i7)) < ((block1.len : Nat) : Int) then ((ldI .u64 (w5.add ((Int.toNat t6) * 1)) w.drew).bind fun v_8 =>
  (ldI .u8 (p_7.add ((Int.toNat (IntKind.i64.wrap ((IntKind.i64.wrap (8 * t6)) + i7))) * 1)) w.drew).bind fun v_9 =>
  if (0 : Int) ≤ t6 ∧ t6 < ((80 : Nat) : Int) then ((stC (w5.add ((Int.toNat t6) * 1)) (.int .u64 (bits .or .u64 (IntKind.u64.wrap (v_8 * 2 ^ 8)) (IntKind.u64.wrap v_9))) w.drew).bind fun w_10 =>
  rec block1 h2 a4 w5 t6 (IntKind.i64.wrap (i7 + 1)) w_10) else none) else none) else none) else (some ((), w))
noncomputable def ref01_taken64_l1 (K : Nat) (n : Nat) : Sl → Addr → Addr → Addr → Int → Int → World → Option ((Unit) × World) := iter (fun _ _ _ _ _ _ _ => none) (ref01_taken64_l1_b K) n
noncomputable def ref01_taken64_l0_b (K : Nat) (rec : Sl → Addr → Addr → Addr → Int → World → Option ((Unit) × World)) (block1 : Sl) (h2 : Addr) (a4 : Addr) (w5 : Addr) (t6 : Int) (w : World) : Option ((Unit) × World) :=
  if (decide (t6 < 16)) = true then (bnd (ref01_taken64_l1 K K block1 h2 a4 w5 t6 0 w) fun y_11 w_12 =>
  rec block1 h2 a4 w5 (IntKind.i64.wrap (t6 + 1)) w_12) else (some ((), w))
noncomputable def ref01_taken64_l0 (K : Nat) (n : Nat) : Sl → Addr → Addr → Addr → Int → World → Option ((Unit) × World) := iter (fun _ _ _ _ _ _ => none) (ref01_taken64_l0_b K) n
noncomputable def ref01_taken64_l2_b (K : Nat) (rec : Addr → Addr → Addr → Int → World → Option ((Unit) × World)) (h2 : Addr) (a4 : Addr) (w5 : Addr) (t8 : Int) (w : World) : Option ((Unit) × World) :=
  if (decide (t8 < 80)) = true then (if (0 : Int) ≤ (IntKind.i64.wrap (t8 - 15)) ∧ (IntKind.i64.wrap (t8 - 15)) < ((80 : Nat) : Int) then ((ldI .u64 (w5.add ((Int.toNat (IntKind.i64.wrap (t8 - 15))) * 1)) w).bind fun v_15 =>
  if (0 : Int) ≤ (IntKind.i64.wrap (t8 - 2)) ∧ (IntKind.i64.wrap (t8 - 2)) < ((80 : Nat) : Int) then ((ldI .u64 (w5.add ((Int.toNat (IntKind.i64.wrap (t8 - 2))) * 1)) w).bind fun v_16 =>
  if (0 : Int) ≤ (IntKind.i64.wrap (t8 - 7)) ∧ (IntKind.i64.wrap (t8 - 7)) < ((80 : Nat) : Int) then (if (0 : Int) ≤ (IntKind.i64.wrap (t8 - 16)) ∧ (IntKind.i64.wrap (t8 - 16)) < ((80 : Nat) : Int) then ((ldI .u64 (w5.add ((Int.toNat (IntKind.i64.wrap (t8 - 7))) * 1)) w.drew).bind fun v_17 =>
  (ldI .u64 (w5.add ((Int.toNat (IntKind.i64.wrap (t8 - 16))) * 1)) w.drew).bind fun v_18 =>
  if (0 : Int) ≤ t8 ∧ t8 < ((80 : Nat) : Int) then ((stC (w5.add ((Int.toNat t8) * 1)) (.int .u64 (IntKind.u64.wrap ((IntKind.u64.wrap ((IntKind.u64.wrap ((bits .xor .u64 (bits .xor .u64 (bits .or .u64 (Int.fdiv v_16 (2 ^ 19)) (IntKind.u64.wrap (v_16 * 2 ^ 45))) (bits .or .u64 (Int.fdiv v_16 (2 ^ 61)) (IntKind.u64.wrap (v_16 * 2 ^ 3)))) (Int.fdiv v_16 (2 ^ 6))) + v_17)) + (bits .xor .u64 (bits .xor .u64 (bits .or .u64 (Int.fdiv v_15 (2 ^ 1)) (IntKind.u64.wrap (v_15 * 2 ^ 63))) (bits .or .u64 (Int.fdiv v_15 (2 ^ 8)) (IntKind.u64.wrap (v_15 * 2 ^ 56)))) (Int.fdiv v_15 (2 ^ 7))))) + v_18))) w.drew).bind fun w_19 =>
  rec h2 a4 w5 (IntKind.i64.wrap (t8 + 1)) w_19) else none) else none) else none) else none) else none) else (some ((), w))
noncomputable def ref01_taken64_l2 (K : Nat) (n : Nat) : Addr → Addr → Addr → Int → World → Option ((Unit) × World) := iter (fun _ _ _ _ _ => none) (ref01_taken64_l2_b K) n
noncomputable def ref01_taken64_l3_b (K : Nat) (rec : Addr → Addr → Addr → Int → Int → Int → Int → Int → Int → Int → Int → Int → World → Option ((Int × Int × Int × Int × Int × Int × Int × Int × Unit) × World)) (h2 : Addr) (a4 : Addr) (w5 : Addr) (a13 : Int) (b14 : Int) (c15 : Int) (d16 : Int) (e17 : Int) (f18 : Int) (g19 : Int) (z20 : Int) (t21 : Int) (w : World) : Option ((Int × Int × Int × Int × Int × Int × Int × Int × Unit) × World) :=
  if (decide (t21 < 80)) = true then (if (0 : Int) ≤ t21 ∧ t21 < ((80 : Nat) : Int) then (if (0 : Int) ≤ t21 ∧ t21 < ((80 : Nat) : Int) then ((ldI .u64 ((⟨2, 0, none⟩ : Addr).add ((Int.toNat t21) * 1)) w.drew).bind fun v_30 =>
  (ldI .u64 (w5.add ((Int.toNat t21) * 1)) w.drew).bind fun v_31 =>
  rec h2 a4 w5 (IntKind.u64.wrap ((IntKind.u64.wrap ((IntKind.u64.wrap ((IntKind.u64.wrap ((IntKind.u64.wrap (z20 + (bits .xor .u64 (bits .xor .u64 (bits .or .u64 (Int.fdiv e17 (2 ^ 14)) (IntKind.u64.wrap (e17 * 2 ^ 50))) (bits .or .u64 (Int.fdiv e17 (2 ^ 18)) (IntKind.u64.wrap (e17 * 2 ^ 46)))) (bits .or .u64 (Int.fdiv e17 (2 ^ 41)) (IntKind.u64.wrap (e17 * 2 ^ 23)))))) + (bits .or .u64 (bits .and .u64 e17 f18) (bits .and .u64 (bits .xor .u64 IntKind.u64.max e17) g19)))) + v_30)) + v_31)) + (IntKind.u64.wrap ((bits .xor .u64 (bits .xor .u64 (bits .or .u64 (Int.fdiv a13 (2 ^ 28)) (IntKind.u64.wrap (a13 * 2 ^ 36))) (bits .or .u64 (Int.fdiv a13 (2 ^ 34)) (IntKind.u64.wrap (a13 * 2 ^ 30)))) (bits .or .u64 (Int.fdiv a13 (2 ^ 39)) (IntKind.u64.wrap (a13 * 2 ^ 25)))) + (bits .or .u64 (bits .or .u64 (bits .and .u64 a13 b14) (bits .and .u64 a13 c15)) (bits .and .u64 b14 c15)))))) a13 b14 c15 (IntKind.u64.wrap (d16 + (IntKind.u64.wrap ((IntKind.u64.wrap ((IntKind.u64.wrap ((IntKind.u64.wrap (z20 + (bits .xor .u64 (bits .xor .u64 (bits .or .u64 (Int.fdiv e17 (2 ^ 14)) (IntKind.u64.wrap (e17 * 2 ^ 50))) (bits .or .u64 (Int.fdiv e17 (2 ^ 18)) (IntKind.u64.wrap (e17 * 2 ^ 46)))) (bits .or .u64 (Int.fdiv e17 (2 ^ 41)) (IntKind.u64.wrap (e17 * 2 ^ 23)))))) + (bits .or .u64 (bits .and .u64 e17 f18) (bits .and .u64 (bits .xor .u64 IntKind.u64.max e17) g19)))) + v_30)) + v_31)))) e17 f18 g19 (IntKind.i64.wrap (t21 + 1)) w.drew) else none) else none) else (some ((a13, b14, c15, d16, e17, f18, g19, z20, ()), w))
noncomputable def ref01_taken64_l3 (K : Nat) (n : Nat) : Addr → Addr → Addr → Int → Int → Int → Int → Int → Int → Int → Int → Int → World → Option ((Int × Int × Int × Int × Int × Int × Int × Int × Unit) × World) := iter (fun _ _ _ _ _ _ _ _ _ _ _ _ _ => none) (ref01_taken64_l3_b K) n
/-- coffer/cofferref01.taken64 -/
noncomputable def ref01_taken64 (K : Nat) (h0 : Array Value) (block1 : Sl) (w : World) : Option (((Array Value) × Unit) × World) :=
  bnd (newB h0 150 w) fun p_1 w_2 =>
  bnd (newB z150 150 w_2) fun p_3 w_4 =>
  bnd (newB z175 175 w_4) fun w_5 w_6 =>
  bnd (ref01_taken64_l0 K K block1 p_1 p_3 w_5 0 w_6) fun y_13 w_14 =>
  bnd (ref01_taken64_l2 K K p_1 p_3 w_5 16 w_14) fun y_20 w_21 =>
  (ldI .u64 (p_1.add (0 * 1)) w_21.drew).bind fun v_22 =>
  (ldI .u64 (p_1.add (1 * 1)) w_21.drew).bind fun v_23 =>
  (ldI .u64 (p_1.add (2 * 1)) w_21.drew).bind fun v_24 =>
  (ldI .u64 (p_1.add (3 * 1)) w_21.drew).bind fun v_25 =>
  (ldI .u64 (p_1.add (4 * 1)) w_21.drew.drew).bind fun v_26 =>
  (ldI .u64 (p_1.add (5 * 1)) w_21.drew.drew).bind fun v_27 =>
  (ldI .u64 (p_1.add (6 * 1)) w_21.drew.drew).bind fun v_28 =>
  (ldI .u64 (p_1.add (7 * 1)) w_21.drew.drew).bind fun v_29 =>
  bnd (ref01_taken64_l3 K K p_1 p_3 w_5 v_22 v_23 v_24 v_25 v_26 v_27 v_28 v_29 0 w_21.drew.drew) fun y_32 w_33 =>
  (ldI .u64 (p_1.add (0 * 1)) w_33).bind fun v_34 =>
  (ldI .u64 (p_1.add (1 * 1)) w_33).bind fun v_35 =>
  (ldI .u64 (p_1.add (2 * 1)) w_33).bind fun v_36 =>
  (ldI .u64 (p_1.add (3 * 1)) w_33).bind fun v_37 =>
  (ldI .u64 (p_1.add (4 * 1)) w_33).bind fun v_38 =>
  (ldI .u64 (p_1.add (5 * 1)) w_33).bind fun v_39 =>
  (ldI .u64 (p_1.add (6 * 1)) w_33).bind fun v_40 =>
  (ldI .u64 (p_1.add (7 * 1)) w_33).bind fun v_41 =>
  (prog.built 150 [(0, (.int .u64 (IntKind.u64.wrap (v_34 + y_32.1)))), (1, (.int .u64 (IntKind.u64.wrap (v_35 + y_32.2.1)))), (2, (.int .u64 (IntKind.u64.wrap (v_36 + y_32.2.2.1)))), (3, (.int .u64 (IntKind.u64.wrap (v_37 + y_32.2.2.2.1)))), (4, (.int .u64 (IntKind.u64.wrap (v_38 + y_32.2.2.2.2.1)))), (5, (.int .u64 (IntKind.u64.wrap (v_39 + y_32.2.2.2.2.2.1)))), (6, (.int .u64 (IntKind.u64.wrap (v_40 + y_32.2.2.2.2.2.2.1)))), (7, (.int .u64 (IntKind.u64.wrap (v_41 + y_32.2.2.2.2.2.2.2.1))))]).bind fun cs_42 =>
  if (cs_42).size = 8 then ((stA p_3 cs_42 w_33).bind fun w_43 =>
  (ldA 8 p_3 w_43).bind fun res_44 =>
  some ((res_44, ()), w_43)) else none
theorem ref01_taken64_l1_ok (K : Nat) (n : Nat) : StmtNOk prog [(1, .sl), (2, .addr), (4, .addr), (5, .addr), (6, .int .i64), (7, .int .i64)] [] [(7, 8), (30, 49)] ((fun n x w => ref01_taken64_l1 K n x.1 x.2.1 x.2.2.1 x.2.2.2.1 x.2.2.2.2.1 x.2.2.2.2.2.1 w) n) (.block 2 (.loop (cd (bodyOf f101) [1, 1, 0, 1, 0, 0, 1, 0, 0, 1, 0, 0]))) :=
    mk_loopN (O := tabL []) (root := (bodyOf f101)) (π := [1, 1, 0, 1, 0, 0, 1, 0, 0, 1, 0, 0]) (id := 2) (Li := [(1, .sl), (2, .addr), (4, .addr), (5, .addr), (6, .int .i64), (7, .int .i64)]) (Lo := []) (S := (fun n x w => ref01_taken64_l1 K n x.1 x.2.1 x.2.2.1 x.2.2.2.1 x.2.2.2.2.1 x.2.2.2.2.2.1 w)) (body := cd (bodyOf f101) [1, 1, 0, 1, 0, 0, 1, 0, 0, 1, 0, 0]) (ref01_taken64_Eok K) (ref01_taken64_Rok K) rfl (Orc.nil _ _ _) (by kernel_rfl) (fun _ _ => by kernel_rfl) (fun _ _ _ => by kernel_rfl) n
noncomputable def ref01_taken64_l1_se (K : Nat) : SE := stmtN [(1, .sl), (2, .addr), (4, .addr), (5, .addr), (6, .int .i64), (7, .int .i64)] [] [(7, 8), (30, 49)] (fun x w => ref01_taken64_l1 K K x.1 x.2.1 x.2.2.1 x.2.2.2.1 x.2.2.2.2.1 x.2.2.2.2.2.1 w)
theorem ref01_taken64_l1_se_ok (K : Nat) (R : Rg) (h : subRB [(7, 8), (30, 49)] R = true) : (ref01_taken64_l1_se K).Ok prog R (.block 2 (.loop (cd (bodyOf f101) [1, 1, 0, 1, 0, 0, 1, 0, 0, 1, 0, 0]))) := stmtN_ok (Li := [(1, .sl), (2, .addr), (4, .addr), (5, .addr), (6, .int .i64), (7, .int .i64)]) (Lo := []) (S := (fun x w => ref01_taken64_l1 K K x.1 x.2.1 x.2.2.1 x.2.2.2.1 x.2.2.2.2.1 x.2.2.2.2.2.1 w)) (ref01_taken64_l1_ok K K) (subR_of h)
theorem ref01_taken64_l0_ok (K : Nat) (n : Nat) : StmtNOk prog [(1, .sl), (2, .addr), (4, .addr), (5, .addr), (6, .int .i64)] [] [(6, 8), (26, 49)] ((fun n x w => ref01_taken64_l0 K n x.1 x.2.1 x.2.2.1 x.2.2.2.1 x.2.2.2.2.1 w) n) (.block 0 (.loop (cd (bodyOf f101) [1, 1, 0, 1, 0, 0]))) :=
    mk_loopN (O := tabL [([1, 1, 0, 1, 0, 0, 1, 0, 0, 1], ref01_taken64_l1_se K)]) (root := (bodyOf f101)) (π := [1, 1, 0, 1, 0, 0]) (id := 0) (Li := [(1, .sl), (2, .addr), (4, .addr), (5, .addr), (6, .int .i64)]) (Lo := []) (S := (fun n x w => ref01_taken64_l0 K n x.1 x.2.1 x.2.2.1 x.2.2.2.1 x.2.2.2.2.1 w)) (body := cd (bodyOf f101) [1, 1, 0, 1, 0, 0]) (ref01_taken64_Eok K) (ref01_taken64_Rok K) rfl (Orc.cons (by kernel_rfl) (ref01_taken64_l1_se_ok K [(6, 8), (26, 49)] (by kernel_rfl)) (Orc.nil _ _ _)) (by kernel_rfl) (fun _ _ => by kernel_rfl) (fun _ _ _ => by kernel_rfl) n
noncomputable def ref01_taken64_l0_se (K : Nat) : SE := stmtN [(1, .sl), (2, .addr), (4, .addr), (5, .addr), (6, .int .i64)] [] [(6, 8), (26, 49)] (fun x w => ref01_taken64_l0 K K x.1 x.2.1 x.2.2.1 x.2.2.2.1 x.2.2.2.2.1 w)
theorem ref01_taken64_l0_se_ok (K : Nat) (R : Rg) (h : subRB [(6, 8), (26, 49)] R = true) : (ref01_taken64_l0_se K).Ok prog R (.block 0 (.loop (cd (bodyOf f101) [1, 1, 0, 1, 0, 0]))) := stmtN_ok (Li := [(1, .sl), (2, .addr), (4, .addr), (5, .addr), (6, .int .i64)]) (Lo := []) (S := (fun x w => ref01_taken64_l0 K K x.1 x.2.1 x.2.2.1 x.2.2.2.1 x.2.2.2.2.1 w)) (ref01_taken64_l0_ok K K) (subR_of h)
theorem ref01_taken64_l2_ok (K : Nat) (n : Nat) : StmtNOk prog [(2, .addr), (4, .addr), (5, .addr), (8, .int .i64)] [] [(8, 13), (49, 104)] ((fun n x w => ref01_taken64_l2 K n x.1 x.2.1 x.2.2.1 x.2.2.2.1 w) n) (.block 4 (.loop (cd (bodyOf f101) [1, 1, 1, 0, 1, 0, 0]))) :=
    mk_loopN (O := tabL []) (root := (bodyOf f101)) (π := [1, 1, 1, 0, 1, 0, 0]) (id := 4) (Li := [(2, .addr), (4, .addr), (5, .addr), (8, .int .i64)]) (Lo := []) (S := (fun n x w => ref01_taken64_l2 K n x.1 x.2.1 x.2.2.1 x.2.2.2.1 w)) (body := cd (bodyOf f101) [1, 1, 1, 0, 1, 0, 0]) (ref01_taken64_Eok K) (ref01_taken64_Rok K) rfl (Orc.nil _ _ _) (by kernel_rfl) (fun _ _ => by kernel_rfl) (fun _ _ _ => by kernel_rfl) n
noncomputable def ref01_taken64_l2_se (K : Nat) : SE := stmtN [(2, .addr), (4, .addr), (5, .addr), (8, .int .i64)] [] [(8, 13), (49, 104)] (fun x w => ref01_taken64_l2 K K x.1 x.2.1 x.2.2.1 x.2.2.2.1 w)
theorem ref01_taken64_l2_se_ok (K : Nat) (R : Rg) (h : subRB [(8, 13), (49, 104)] R = true) : (ref01_taken64_l2_se K).Ok prog R (.block 4 (.loop (cd (bodyOf f101) [1, 1, 1, 0, 1, 0, 0]))) := stmtN_ok (Li := [(2, .addr), (4, .addr), (5, .addr), (8, .int .i64)]) (Lo := []) (S := (fun x w => ref01_taken64_l2 K K x.1 x.2.1 x.2.2.1 x.2.2.2.1 w)) (ref01_taken64_l2_ok K K) (subR_of h)
theorem ref01_taken64_l3_ok (K : Nat) (n : Nat) : StmtNOk prog [(2, .addr), (4, .addr), (5, .addr), (13, .int .u64), (14, .int .u64), (15, .int .u64), (16, .int .u64), (17, .int .u64), (18, .int .u64), (19, .int .u64), (20, .int .u64), (21, .int .i64)] [(13, .int .u64), (14, .int .u64), (15, .int .u64), (16, .int .u64), (17, .int .u64), (18, .int .u64), (19, .int .u64), (20, .int .u64)] [(13, 26), (120, 203)] ((fun n x w => ref01_taken64_l3 K n x.1 x.2.1 x.2.2.1 x.2.2.2.1 x.2.2.2.2.1 x.2.2.2.2.2.1 x.2.2.2.2.2.2.1 x.2.2.2.2.2.2.2.1 x.2.2.2.2.2.2.2.2.1 x.2.2.2.2.2.2.2.2.2.1 x.2.2.2.2.2.2.2.2.2.2.1 x.2.2.2.2.2.2.2.2.2.2.2.1 w) n) (.block 6 (.loop (cd (bodyOf f101) [1, 1, 1, 1, 1, 1, 0, 1, 0, 0]))) :=
    mk_loopN (O := tabL []) (root := (bodyOf f101)) (π := [1, 1, 1, 1, 1, 1, 0, 1, 0, 0]) (id := 6) (Li := [(2, .addr), (4, .addr), (5, .addr), (13, .int .u64), (14, .int .u64), (15, .int .u64), (16, .int .u64), (17, .int .u64), (18, .int .u64), (19, .int .u64), (20, .int .u64), (21, .int .i64)]) (Lo := [(13, .int .u64), (14, .int .u64), (15, .int .u64), (16, .int .u64), (17, .int .u64), (18, .int .u64), (19, .int .u64), (20, .int .u64)]) (S := (fun n x w => ref01_taken64_l3 K n x.1 x.2.1 x.2.2.1 x.2.2.2.1 x.2.2.2.2.1 x.2.2.2.2.2.1 x.2.2.2.2.2.2.1 x.2.2.2.2.2.2.2.1 x.2.2.2.2.2.2.2.2.1 x.2.2.2.2.2.2.2.2.2.1 x.2.2.2.2.2.2.2.2.2.2.1 x.2.2.2.2.2.2.2.2.2.2.2.1 w)) (body := cd (bodyOf f101) [1, 1, 1, 1, 1, 1, 0, 1, 0, 0]) (ref01_taken64_Eok K) (ref01_taken64_Rok K) rfl (Orc.nil _ _ _) (by kernel_rfl) (fun _ _ => by kernel_rfl) (fun _ _ _ => by kernel_rfl) n
noncomputable def ref01_taken64_l3_se (K : Nat) : SE := stmtN [(2, .addr), (4, .addr), (5, .addr), (13, .int .u64), (14, .int .u64), (15, .int .u64), (16, .int .u64), (17, .int .u64), (18, .int .u64), (19, .int .u64), (20, .int .u64), (21, .int .i64)] [(13, .int .u64), (14, .int .u64), (15, .int .u64), (16, .int .u64), (17, .int .u64), (18, .int .u64), (19, .int .u64), (20, .int .u64)] [(13, 26), (120, 203)] (fun x w => ref01_taken64_l3 K K x.1 x.2.1 x.2.2.1 x.2.2.2.1 x.2.2.2.2.1 x.2.2.2.2.2.1 x.2.2.2.2.2.2.1 x.2.2.2.2.2.2.2.1 x.2.2.2.2.2.2.2.2.1 x.2.2.2.2.2.2.2.2.2.1 x.2.2.2.2.2.2.2.2.2.2.1 x.2.2.2.2.2.2.2.2.2.2.2.1 w)
theorem ref01_taken64_l3_se_ok (K : Nat) (R : Rg) (h : subRB [(13, 26), (120, 203)] R = true) : (ref01_taken64_l3_se K).Ok prog R (.block 6 (.loop (cd (bodyOf f101) [1, 1, 1, 1, 1, 1, 0, 1, 0, 0]))) := stmtN_ok (Li := [(2, .addr), (4, .addr), (5, .addr), (13, .int .u64), (14, .int .u64), (15, .int .u64), (16, .int .u64), (17, .int .u64), (18, .int .u64), (19, .int .u64), (20, .int .u64), (21, .int .i64)]) (Lo := [(13, .int .u64), (14, .int .u64), (15, .int .u64), (16, .int .u64), (17, .int .u64), (18, .int .u64), (19, .int .u64), (20, .int .u64)]) (S := (fun x w => ref01_taken64_l3 K K x.1 x.2.1 x.2.2.1 x.2.2.2.1 x.2.2.2.2.1 x.2.2.2.2.2.1 x.2.2.2.2.2.2.1 x.2.2.2.2.2.2.2.1 x.2.2.2.2.2.2.2.2.1 x.2.2.2.2.2.2.2.2.2.1 x.2.2.2.2.2.2.2.2.2.2.1 x.2.2.2.2.2.2.2.2.2.2.2.1 w)) (ref01_taken64_l3_ok K K) (subR_of h)
theorem ref01_taken64_facts : FunFacts prog 101 f101 (bodyOf f101) [(0, .agg), (1, .sl)] [(0, 236)] := ⟨func101, by kernel_rfl, by kernel_rfl, by kernel_rfl, by kernel_rfl, by kernel_rfl⟩
theorem ref01_taken64_calls (K : Nat) (x : TT [(0, .agg), (1, .sl)]) (w : World) (y : TR [.agg]) (w2 : World) (h : ref01_taken64 K x.1 x.2.1 w = some (y, w2)) : Calls prog 101 (encA [(0, .agg), (1, .sl)] x).toArray w (fun e w3 => e = .returned (resV (encR [.agg] y)) ∧ w3 = w2) :=
    mk_fun (O := tabL [([1, 1, 0, 1], ref01_taken64_l0_se K), ([1, 1, 0, 1, 0, 0, 1, 0, 0, 1], ref01_taken64_l1_se K), ([1, 1, 1, 0, 1], ref01_taken64_l2_se K), ([1, 1, 1, 1, 1, 1, 0, 1], ref01_taken64_l3_se K)]) (Lp := [(0, .agg), (1, .sl)]) (Rt := [.agg]) (S := (fun x w => ref01_taken64 K x.1 x.2.1 w)) (ref01_taken64_Eok K) (ref01_taken64_Rok K) rfl ref01_taken64_facts (Orc.cons (by kernel_rfl) (ref01_taken64_l0_se_ok K [(0, 236)] (by kernel_rfl)) (Orc.cons (by kernel_rfl) (ref01_taken64_l1_se_ok K [(0, 236)] (by kernel_rfl)) (Orc.cons (by kernel_rfl) (ref01_taken64_l2_se_ok K [(0, 236)] (by kernel_rfl)) (Orc.cons (by kernel_rfl) (ref01_taken64_l3_se_ok K [(0, 236)] (by kernel_rfl)) (Orc.nil _ _ _))))) (fun _ _ => by kernel_rfl) x w y w2 h
noncomputable def ref01_taken64_ce (K : Nat) : CE := funE [(0, .agg), (1, .sl)] [.agg] (fun x w => ref01_taken64 K x.1 x.2.1 w)
theorem ref01_taken64_ok (K : Nat) : (ref01_taken64_ce K).Ok prog 101 := funE_ok (Rt := [.agg]) (S := (fun x w => ref01_taken64 K x.1 x.2.1 w)) ref01_taken64_facts fun x w y w2 h => ref01_taken64_calls K x w y w2 h

noncomputable def ref01_Size_R : List (Nat × RE) := []
theorem ref01_Size_Rok : REnv.Ok prog (tab (ref01_Size_R)) := (REnv.nil _)
/-- coffer/cofferref01.Size -/
noncomputable def ref01_Size (hash0 : Int) : Option (Int × Unit) :=
  if (hash0 == 224) = true then (some ((IntKind.i64.wrap (Int.tdiv hash0 8)), ())) else (if (hash0 == 256) = true then (some ((IntKind.i64.wrap (Int.tdiv hash0 8)), ())) else (if (hash0 == 384) = true then (some ((IntKind.i64.wrap (Int.tdiv hash0 8)), ())) else (if (hash0 == 512) = true then (some ((IntKind.i64.wrap (Int.tdiv hash0 8)), ())) else (some (0, ())))))
theorem ref01_Size_facts : FunFacts prog 66 f66 (bodyOf f66) [(0, .int .i64)] [(0, 11)] := ⟨func66, by kernel_rfl, by kernel_rfl, by kernel_rfl, by kernel_rfl, by kernel_rfl⟩
theorem ref01_Size_calls (x : TT [(0, .int .i64)]) (w : World) (y : TR [.int .i64]) (h : ref01_Size x.1 = some y) : Calls prog 66 (encA [(0, .int .i64)] x).toArray w (fun e w3 => e = .returned (resV (encR [.int .i64] y)) ∧ w3 = w) :=
    mk_funQ (O := tabL []) (Lp := [(0, .int .i64)]) (Rt := [.int .i64]) (S := (fun x w => ref01_Size x.1)) (ref01_Size_Rok) ref01_Size_facts (OrcQ.nil _ _ _) (fun _ _ => by kernel_rfl) x w y h
noncomputable def ref01_Size_re : RE := funR [(0, .int .i64)] [.int .i64] (fun x w => ref01_Size x.1)
theorem ref01_Size_ok : (ref01_Size_re).Ok prog 66 := funR_ok (Rt := [.int .i64]) (S := (fun x w => ref01_Size x.1)) ref01_Size_facts fun x w y h => ref01_Size_calls x w y h

noncomputable def ref01_Sum_E (K : Nat) : List (Nat × CE) := [(98, ref01_first_ce K), (99, ref01_laid_ce K), (100, ref01_narrow_ce K), (101, ref01_taken64_ce K)]
theorem ref01_Sum_Eok (K : Nat) : Env.Ok prog (tab (ref01_Sum_E K)) := (Env.cons (ref01_first_ok K) (Env.cons (ref01_laid_ok K) (Env.cons (ref01_narrow_ok K) (Env.cons (ref01_taken64_ok K) (Env.nil _)))))
noncomputable def ref01_Sum_R (K : Nat) : List (Nat × RE) := [(94, ref01_Block_re), (66, ref01_Size_re)]
theorem ref01_Sum_Rok (K : Nat) : REnv.Ok prog (tab (ref01_Sum_R K)) := (REnv.cons (ref01_Block_ok) (REnv.cons (ref01_Size_ok) (REnv.nil _)))
noncomputable def ref01_Sum_l1_b (K : Nat) (rec : Addr → Sl → Int → World → Option ((Unit) × World)) (h6 : Addr) (p7 : Sl) (i9 : Int) (w : World) : Option ((Unit) × World) :=
  if (decide (i9 < ((p7.len : Nat) : Int))) = true then (if (0 : Int) ≤ (IntKind.i64.wrap (i9 + 128)) ∧ (IntKind.i64.wrap (i9 + 128)) ≤ ((p7.cap : Nat) : Int) then (if (0 : Int) ≤ i9 ∧ i9 ≤ (((Int.toNat ((IntKind.i64.wrap (i9 + 128)))) : Nat) : Int) then ((ldA 8 h6 w.drew).bind fun v_13 =>
  bnd (ref01_taken64 K v_13 ⟨(sla p7.a (Int.toNat (i9)) p7.cap 1), ((Int.toNat ((IntKind.i64.wrap (i9 + 128)))) - (Int.toNat (i9))), (p7.cap - (Int.toNat (i9)))⟩ w.drew) fun r_14 w_15 =>
  if (r_14.1).size = 8 then ((stA h6 r_14.1 w_15).bind fun w_16 =>
  rec h6 p7 (IntKind.i64.wrap (i9 + 128)) w_16) else none) else none) else none) else (some ((), w))
noncomputable def ref01_Sum_l1 (K : Nat) (n : Nat) : Addr → Sl → Int → World → Option ((Unit) × World) := iter (fun _ _ _ _ => none) (ref01_Sum_l1_b K) n
noncomputable def ref01_Sum_s0 (K : Nat) (h6 : Addr) (p7 : Sl) (a25 : Bool) (w : World) : Option ((Unit) × World) :=
  if a25 = true then ((ldA 8 h6 w).bind fun v_9 =>
  bnd (ref01_narrow K v_9 p7 w) fun r_10 w_11 =>
  if (r_10.1).size = 8 then ((stA h6 r_10.1 w_11).bind fun w_12 =>
  some ((), w_12)) else none) else (bnd (ref01_Sum_l1 K K h6 p7 0 w) fun y_17 w_18 =>
  some ((), w_18))
noncomputable def ref01_Sum_s4 (K : Nat) (hash0 : Int) (out10 : Sl) (j12 : Int) (w : World) : Option ((Bool × Unit) × World) :=
  if (decide (j12 ≥ 0)) = true then ((ref01_Size hash0).bind fun r_22 =>
  some (((decide (((out10.len : Nat) : Int) < r_22.1)), ()), w)) else (some ((false, ()), w))
noncomputable def ref01_Sum_l3_b (K : Nat) (rec : Int → Addr → Int → Sl → Int → Int → World → Option ((Sl × Unit) × World)) (hash0 : Int) (h6 : Addr) (n8 : Int) (out10 : Sl) (i11 : Int) (j12 : Int) (w : World) : Option ((Sl × Unit) × World) :=
  bnd (ref01_Sum_s4 K hash0 out10 j12 w) fun y_23 w_24 =>
  if y_23.1 = true then (if (0 : Int) ≤ i11 ∧ i11 < ((8 : Nat) : Int) then ((ldI .u64 (h6.add ((Int.toNat i11) * 1)) w_24).bind fun v_25 =>
  if (0 : Int) ≤ (IntKind.u64.wrap (IntKind.i64.wrap (8 * j12))) then (bnd (bldS prog 23 1 #[(0, (.int .u8 (IntKind.u8.wrap (Int.fdiv v_25 (2 ^ (min (Int.toNat (IntKind.u64.wrap (IntKind.i64.wrap (8 * j12)))) IntKind.u64.bits))))))] w_24) fun s_26 w_27 =>
  bnd (apd prog 23 23 (.slice out10.a out10.len out10.cap) (.slice s_26.a s_26.len s_26.cap) w_27) fun s_28 w_29 =>
  rec hash0 h6 n8 s_28 i11 (IntKind.i64.wrap (j12 - 1)) w_29) else none) else none) else (some ((out10, ()), w_24))
noncomputable def ref01_Sum_l3 (K : Nat) (n : Nat) : Int → Addr → Int → Sl → Int → Int → World → Option ((Sl × Unit) × World) := iter (fun _ _ _ _ _ _ _ => none) (ref01_Sum_l3_b K) n
noncomputable def ref01_Sum_l2_b (K : Nat) (rec : Int → Addr → Int → Sl → Int → World → Option ((Sl × Unit) × World)) (hash0 : Int) (h6 : Addr) (n8 : Int) (out10 : Sl) (i11 : Int) (w : World) : Option ((Sl × Unit) × World) :=
  (ref01_Size hash0).bind fun r_21 =>
  if (decide (((out10.len : Nat) : Int) < r_21.1)) = true then (bnd (ref01_Sum_l3 K K hash0 h6 n8 out10 i11 (IntKind.i64.wrap (n8 - 1)) w) fun y_30 w_31 =>
  rec hash0 h6 n8 y_30.1 (IntKind.i64.wrap (i11 + 1)) w_31) else (some ((out10, ()), w))
noncomputable def ref01_Sum_l2 (K : Nat) (n : Nat) : Int → Addr → Int → Sl → Int → World → Option ((Sl × Unit) × World) := iter (fun _ _ _ _ _ _ => none) (ref01_Sum_l2_b K) n
/-- coffer/cofferref01.Sum -/
noncomputable def ref01_Sum (K : Nat) (hash0 : Int) (b1 : Sl) (w : World) : Option ((Sl × Unit) × World) :=
  (ref01_Block hash0).bind fun r_1 =>
  if (r_1.1 == 0) = true then (some ((⟨none, 0, 0⟩, ()), w)) else (bnd (ref01_first K hash0 w) fun r_2 w_3 =>
  bnd (newB z150 150 w_3) fun h_4 w_5 =>
  if (r_2.1).size = 8 then ((stA h_4 r_2.1 w_5).bind fun w_6 =>
  bnd (ref01_laid K b1 r_1.1 w_6) fun r_7 w_8 =>
  bnd (ref01_Sum_s0 K h_4 r_7.1 ((IntKind.i64.wrap (Int.tdiv r_1.1 16)) == 4) w_8) fun y_19 w_20 =>
  bnd (ref01_Sum_l2 K K hash0 h_4 (IntKind.i64.wrap (Int.tdiv r_1.1 16)) ⟨none, 0, 0⟩ 0 w_20) fun y_32 w_33 =>
  some ((y_32.1, ()), w_33)) else none)
theorem ref01_Sum_l1_ok (K : Nat) (n : Nat) : StmtNOk prog [(6, .addr), (7, .sl), (9, .int .i64)] [] [(9, 10), (29, 42)] ((fun n x w => ref01_Sum_l1 K n x.1 x.2.1 x.2.2.1 w) n) (.block 0 (.loop (cd (bodyOf f75) [1, 1, 1, 1, 1, 1, 0, 1, 1, 1, 0, 0]))) :=
    mk_loopN (O := tabL []) (root := (bodyOf f75)) (π := [1, 1, 1, 1, 1, 1, 0, 1, 1, 1, 0, 0]) (id := 0) (Li := [(6, .addr), (7, .sl), (9, .int .i64)]) (Lo := []) (S := (fun n x w => ref01_Sum_l1 K n x.1 x.2.1 x.2.2.1 w)) (body := cd (bodyOf f75) [1, 1, 1, 1, 1, 1, 0, 1, 1, 1, 0, 0]) (ref01_Sum_Eok K) (ref01_Sum_Rok K) rfl (Orc.nil _ _ _) (by kernel_rfl) (fun _ _ => by kernel_rfl) (fun _ _ _ => by kernel_rfl) n
noncomputable def ref01_Sum_l1_se (K : Nat) : SE := stmtN [(6, .addr), (7, .sl), (9, .int .i64)] [] [(9, 10), (29, 42)] (fun x w => ref01_Sum_l1 K K x.1 x.2.1 x.2.2.1 w)
theorem ref01_Sum_l1_se_ok (K : Nat) (R : Rg) (h : subRB [(9, 10), (29, 42)] R = true) : (ref01_Sum_l1_se K).Ok prog R (.block 0 (.loop (cd (bodyOf f75) [1, 1, 1, 1, 1, 1, 0, 1, 1, 1, 0, 0]))) := stmtN_ok (Li := [(6, .addr), (7, .sl), (9, .int .i64)]) (Lo := []) (S := (fun x w => ref01_Sum_l1 K K x.1 x.2.1 x.2.2.1 w)) (ref01_Sum_l1_ok K K) (subR_of h)
theorem ref01_Sum_s0_ok (K : Nat) : StmtNOk prog [(6, .addr), (7, .sl), (25, .bool)] [] [(9, 10), (26, 42)] (fun x w => ref01_Sum_s0 K x.1 x.2.1 x.2.2.1 w) (cd (bodyOf f75) [1, 1, 1, 1, 1, 1, 0, 1]) :=
    mk_stmtN (O := tabL [([1, 1, 1, 1, 1, 1, 0, 1, 1, 1], ref01_Sum_l1_se K)]) (root := (bodyOf f75)) (π := [1, 1, 1, 1, 1, 1, 0, 1]) (Li := [(6, .addr), (7, .sl), (25, .bool)]) (Lo := []) (S := (fun x w => ref01_Sum_s0 K x.1 x.2.1 x.2.2.1 w)) (ref01_Sum_Eok K) (ref01_Sum_Rok K) rfl (Orc.cons (by kernel_rfl) (ref01_Sum_l1_se_ok K [(9, 10), (26, 42)] (by kernel_rfl)) (Orc.nil _ _ _)) (by kernel_rfl) (fun _ _ => by kernel_rfl)
noncomputable def ref01_Sum_s0_se (K : Nat) : SE := stmtN [(6, .addr), (7, .sl), (25, .bool)] [] [(9, 10), (26, 42)] (fun x w => ref01_Sum_s0 K x.1 x.2.1 x.2.2.1 w)
theorem ref01_Sum_s0_se_ok (K : Nat) (R : Rg) (h : subRB [(9, 10), (26, 42)] R = true) : (ref01_Sum_s0_se K).Ok prog R (cd (bodyOf f75) [1, 1, 1, 1, 1, 1, 0, 1]) := stmtN_ok (Li := [(6, .addr), (7, .sl), (25, .bool)]) (Lo := []) (S := (fun x w => ref01_Sum_s0 K x.1 x.2.1 x.2.2.1 w)) (ref01_Sum_s0_ok K) (subR_of h)
theorem ref01_Sum_s4_ok (K : Nat) : StmtNOk prog [(0, .int .i64), (10, .sl), (12, .int .i64)] [(59, .bool)] [(51, 60)] (fun x w => ref01_Sum_s4 K x.1 x.2.1 x.2.2.1 w) (cd (bodyOf f75) [1, 1, 1, 1, 1, 1, 1, 1, 0, 1, 0, 0, 1, 0, 0, 1, 0, 0, 0, 0]) :=
    mk_stmtN (O := tabL []) (root := (bodyOf f75)) (π := [1, 1, 1, 1, 1, 1, 1, 1, 0, 1, 0, 0, 1, 0, 0, 1, 0, 0, 0, 0]) (Li := [(0, .int .i64), (10, .sl), (12, .int .i64)]) (Lo := [(59, .bool)]) (S := (fun x w => ref01_Sum_s4 K x.1 x.2.1 x.2.2.1 w)) (ref01_Sum_Eok K) (ref01_Sum_Rok K) rfl (Orc.nil _ _ _) (by kernel_rfl) (fun _ _ => by kernel_rfl)
noncomputable def ref01_Sum_s4_se (K : Nat) : SE := stmtN [(0, .int .i64), (10, .sl), (12, .int .i64)] [(59, .bool)] [(51, 60)] (fun x w => ref01_Sum_s4 K x.1 x.2.1 x.2.2.1 w)
theorem ref01_Sum_s4_se_ok (K : Nat) (R : Rg) (h : subRB [(51, 60)] R = true) : (ref01_Sum_s4_se K).Ok prog R (cd (bodyOf f75) [1, 1, 1, 1, 1, 1, 1, 1, 0, 1, 0, 0, 1, 0, 0, 1, 0, 0, 0, 0]) := stmtN_ok (Li := [(0, .int .i64), (10, .sl), (12, .int .i64)]) (Lo := [(59, .bool)]) (S := (fun x w => ref01_Sum_s4 K x.1 x.2.1 x.2.2.1 w)) (ref01_Sum_s4_ok K) (subR_of h)
theorem ref01_Sum_l3_ok (K : Nat) (n : Nat) : StmtNOk prog [(0, .int .i64), (6, .addr), (8, .int .i64), (10, .sl), (11, .int .i64), (12, .int .i64)] [(10, .sl)] [(10, 11), (12, 13), (51, 73)] ((fun n x w => ref01_Sum_l3 K n x.1 x.2.1 x.2.2.1 x.2.2.2.1 x.2.2.2.2.1 x.2.2.2.2.2.1 w) n) (.block 4 (.loop (cd (bodyOf f75) [1, 1, 1, 1, 1, 1, 1, 1, 0, 1, 0, 0, 1, 0, 0, 1, 0, 0]))) :=
    mk_loopN (O := tabL [([1, 1, 1, 1, 1, 1, 1, 1, 0, 1, 0, 0, 1, 0, 0, 1, 0, 0, 0, 0], ref01_Sum_s4_se K)]) (root := (bodyOf f75)) (π := [1, 1, 1, 1, 1, 1, 1, 1, 0, 1, 0, 0, 1, 0, 0, 1, 0, 0]) (id := 4) (Li := [(0, .int .i64), (6, .addr), (8, .int .i64), (10, .sl), (11, .int .i64), (12, .int .i64)]) (Lo := [(10, .sl)]) (S := (fun n x w => ref01_Sum_l3 K n x.1 x.2.1 x.2.2.1 x.2.2.2.1 x.2.2.2.2.1 x.2.2.2.2.2.1 w)) (body := cd (bodyOf f75) [1, 1, 1, 1, 1, 1, 1, 1, 0, 1, 0, 0, 1, 0, 0, 1, 0, 0]) (ref01_Sum_Eok K) (ref01_Sum_Rok K) rfl (Orc.cons (by kernel_rfl) (ref01_Sum_s4_se_ok K [(10, 11), (12, 13), (51, 73)] (by kernel_rfl)) (Orc.nil _ _ _)) (by kernel_rfl) (fun _ _ => by kernel_rfl) (fun _ _ _ => by kernel_rfl) n
noncomputable def ref01_Sum_l3_se (K : Nat) : SE := stmtN [(0, .int .i64), (6, .addr), (8, .int .i64), (10, .sl), (11, .int .i64), (12, .int .i64)] [(10, .sl)] [(10, 11), (12, 13), (51, 73)] (fun x w => ref01_Sum_l3 K K x.1 x.2.1 x.2.2.1 x.2.2.2.1 x.2.2.2.2.1 x.2.2.2.2.2.1 w)
theorem ref01_Sum_l3_se_ok (K : Nat) (R : Rg) (h : subRB [(10, 11), (12, 13), (51, 73)] R = true) : (ref01_Sum_l3_se K).Ok prog R (.block 4 (.loop (cd (bodyOf f75) [1, 1, 1, 1, 1, 1, 1, 1, 0, 1, 0, 0, 1, 0, 0, 1, 0, 0]))) := stmtN_ok (Li := [(0, .int .i64), (6, .addr), (8, .int .i64), (10, .sl), (11, .int .i64), (12, .int .i64)]) (Lo := [(10, .sl)]) (S := (fun x w => ref01_Sum_l3 K K x.1 x.2.1 x.2.2.1 x.2.2.2.1 x.2.2.2.2.1 x.2.2.2.2.2.1 w)) (ref01_Sum_l3_ok K K) (subR_of h)
theorem ref01_Sum_l2_ok (K : Nat) (n : Nat) : StmtNOk prog [(0, .int .i64), (6, .addr), (8, .int .i64), (10, .sl), (11, .int .i64)] [(10, .sl)] [(10, 13), (42, 73)] ((fun n x w => ref01_Sum_l2 K n x.1 x.2.1 x.2.2.1 x.2.2.2.1 x.2.2.2.2.1 w) n) (.block 2 (.loop (cd (bodyOf f75) [1, 1, 1, 1, 1, 1, 1, 1, 0, 1, 0, 0]))) :=
    mk_loopN (O := tabL [([1, 1, 1, 1, 1, 1, 1, 1, 0, 1, 0, 0, 1, 0, 0, 1], ref01_Sum_l3_se K), ([1, 1, 1, 1, 1, 1, 1, 1, 0, 1, 0, 0, 1, 0, 0, 1, 0, 0, 0, 0], ref01_Sum_s4_se K)]) (root := (bodyOf f75)) (π := [1, 1, 1, 1, 1, 1, 1, 1, 0, 1, 0, 0]) (id := 2) (Li := [(0, .int .i64), (6, .addr), (8, .int .i64), (10, .sl), (11, .int .i64)]) (Lo := [(10, .sl)]) (S := (fun n x w => ref01_Sum_l2 K n x.1 x.2.1 x.2.2.1 x.2.2.2.1 x.2.2.2.2.1 w)) (body := cd (bodyOf f75) [1, 1, 1, 1, 1, 1, 1, 1, 0, 1, 0, 0]) (ref01_Sum_Eok K) (ref01_Sum_Rok K) rfl (Orc.cons (by kernel_rfl) (ref01_Sum_l3_se_ok K [(10, 13), (42, 73)] (by kernel_rfl)) (Orc.cons (by kernel_rfl) (ref01_Sum_s4_se_ok K [(10, 13), (42, 73)] (by kernel_rfl)) (Orc.nil _ _ _))) (by kernel_rfl) (fun _ _ => by kernel_rfl) (fun _ _ _ => by kernel_rfl) n
noncomputable def ref01_Sum_l2_se (K : Nat) : SE := stmtN [(0, .int .i64), (6, .addr), (8, .int .i64), (10, .sl), (11, .int .i64)] [(10, .sl)] [(10, 13), (42, 73)] (fun x w => ref01_Sum_l2 K K x.1 x.2.1 x.2.2.1 x.2.2.2.1 x.2.2.2.2.1 w)
theorem ref01_Sum_l2_se_ok (K : Nat) (R : Rg) (h : subRB [(10, 13), (42, 73)] R = true) : (ref01_Sum_l2_se K).Ok prog R (.block 2 (.loop (cd (bodyOf f75) [1, 1, 1, 1, 1, 1, 1, 1, 0, 1, 0, 0]))) := stmtN_ok (Li := [(0, .int .i64), (6, .addr), (8, .int .i64), (10, .sl), (11, .int .i64)]) (Lo := [(10, .sl)]) (S := (fun x w => ref01_Sum_l2 K K x.1 x.2.1 x.2.2.1 x.2.2.2.1 x.2.2.2.2.1 w)) (ref01_Sum_l2_ok K K) (subR_of h)
theorem ref01_Sum_facts : FunFacts prog 75 f75 (bodyOf f75) [(0, .int .i64), (1, .sl)] [(0, 74)] := ⟨func75, by kernel_rfl, by kernel_rfl, by kernel_rfl, by kernel_rfl, by kernel_rfl⟩
theorem ref01_Sum_calls (K : Nat) (x : TT [(0, .int .i64), (1, .sl)]) (w : World) (y : TR [.sl]) (w2 : World) (h : ref01_Sum K x.1 x.2.1 w = some (y, w2)) : Calls prog 75 (encA [(0, .int .i64), (1, .sl)] x).toArray w (fun e w3 => e = .returned (resV (encR [.sl] y)) ∧ w3 = w2) :=
    mk_fun (O := tabL [([1, 1, 1, 1, 1, 1, 0, 1], ref01_Sum_s0_se K), ([1, 1, 1, 1, 1, 1, 0, 1, 1, 1], ref01_Sum_l1_se K), ([1, 1, 1, 1, 1, 1, 1, 1, 0, 1], ref01_Sum_l2_se K), ([1, 1, 1, 1, 1, 1, 1, 1, 0, 1, 0, 0, 1, 0, 0, 1], ref01_Sum_l3_se K), ([1, 1, 1, 1, 1, 1, 1, 1, 0, 1, 0, 0, 1, 0, 0, 1, 0, 0, 0, 0], ref01_Sum_s4_se K)]) (Lp := [(0, .int .i64), (1, .sl)]) (Rt := [.sl]) (S := (fun x w => ref01_Sum K x.1 x.2.1 w)) (ref01_Sum_Eok K) (ref01_Sum_Rok K) rfl ref01_Sum_facts (Orc.cons (by kernel_rfl) (ref01_Sum_s0_se_ok K [(0, 74)] (by kernel_rfl)) (Orc.cons (by kernel_rfl) (ref01_Sum_l1_se_ok K [(0, 74)] (by kernel_rfl)) (Orc.cons (by kernel_rfl) (ref01_Sum_l2_se_ok K [(0, 74)] (by kernel_rfl)) (Orc.cons (by kernel_rfl) (ref01_Sum_l3_se_ok K [(0, 74)] (by kernel_rfl)) (Orc.cons (by kernel_rfl) (ref01_Sum_s4_se_ok K [(0, 74)] (by kernel_rfl)) (Orc.nil _ _ _)))))) (fun _ _ => by kernel_rfl) x w y w2 h
noncomputable def ref01_Sum_ce (K : Nat) : CE := funE [(0, .int .i64), (1, .sl)] [.sl] (fun x w => ref01_Sum K x.1 x.2.1 w)
theorem ref01_Sum_ok (K : Nat) : (ref01_Sum_ce K).Ok prog 75 := funE_ok (Rt := [.sl]) (S := (fun x w => ref01_Sum K x.1 x.2.1 w)) ref01_Sum_facts fun x w y w2 h => ref01_Sum_calls K x w y w2 h

noncomputable def ref11_Row_E (K : Nat) : List (Nat × CE) := [(75, ref01_Sum_ce K)]
theorem ref11_Row_Eok (K : Nat) : Env.Ok prog (tab (ref11_Row_E K)) := (Env.cons (ref01_Sum_ok K) (Env.nil _))
noncomputable def ref11_Row_R (K : Nat) : List (Nat × RE) := []
theorem ref11_Row_Rok (K : Nat) : REnv.Ok prog (tab (ref11_Row_R K)) := (REnv.nil _)
/-- coffer/cofferref11.Row -/
noncomputable def ref11_Row (K : Nat) (set0 : Int) (secret1 : Sl) (w : World) : Option ((Sl × Unit) × World) :=
  bnd (bldS prog 23 2 #[(0, (.int .u8 (IntKind.u8.wrap (IntKind.u16.wrap (Int.tdiv set0 256))))), (1, (.int .u8 (IntKind.u8.wrap (Int.tmod set0 256))))] w) fun s_1 w_2 =>
  bnd (apd prog 23 23 (.slice s_1.a s_1.len s_1.cap) (.slice secret1.a secret1.len secret1.cap) w_2) fun s_3 w_4 =>
  bnd (ref01_Sum K 256 s_3 w_4) fun r_5 w_6 =>
  bnd (apd prog 23 23 (.slice none 0 0) (.slice secret1.a secret1.len secret1.cap) w_6) fun s_7 w_8 =>
  if (0 : Int) ≤ 4 ∧ 4 ≤ ((r_5.1.cap : Nat) : Int) then (bnd (apd prog 23 23 (.slice s_7.a s_7.len s_7.cap) (.slice (sla r_5.1.a 0 r_5.1.cap 1) (4 - 0) (r_5.1.cap - 0)) w_8) fun s_9 w_10 =>
  some ((s_9, ()), w_10)) else none
theorem ref11_Row_facts : FunFacts prog 47 f47 (bodyOf f47) [(0, .int .u16), (1, .sl)] [(0, 26)] := ⟨func47, by kernel_rfl, by kernel_rfl, by kernel_rfl, by kernel_rfl, by kernel_rfl⟩
theorem ref11_Row_calls (K : Nat) (x : TT [(0, .int .u16), (1, .sl)]) (w : World) (y : TR [.sl]) (w2 : World) (h : ref11_Row K x.1 x.2.1 w = some (y, w2)) : Calls prog 47 (encA [(0, .int .u16), (1, .sl)] x).toArray w (fun e w3 => e = .returned (resV (encR [.sl] y)) ∧ w3 = w2) :=
    mk_fun (O := tabL []) (Lp := [(0, .int .u16), (1, .sl)]) (Rt := [.sl]) (S := (fun x w => ref11_Row K x.1 x.2.1 w)) (ref11_Row_Eok K) (ref11_Row_Rok K) rfl ref11_Row_facts (Orc.nil _ _ _) (fun _ _ => by kernel_rfl) x w y w2 h
noncomputable def ref11_Row_ce (K : Nat) : CE := funE [(0, .int .u16), (1, .sl)] [.sl] (fun x w => ref11_Row K x.1 x.2.1 w)
theorem ref11_Row_ok (K : Nat) : (ref11_Row_ce K).Ok prog 47 := funE_ok (Rt := [.sl]) (S := (fun x w => ref11_Row K x.1 x.2.1 w)) ref11_Row_facts fun x w y w2 h => ref11_Row_calls K x w y w2 h

noncomputable def ref02_Times_R (K : Nat) : List (Nat × RE) := []
theorem ref02_Times_Rok (K : Nat) : REnv.Ok prog (tab (ref02_Times_R K)) := (REnv.nil _)
noncomputable def ref02_Times_l0_b (K : Nat) (rec : Int → Int → Int → Int → Option (Out (Int × Unit) (Int × Unit))) (a0 : Int) (b1 : Int) (p5 : Int) (i6 : Int) : Option (Out (Int × Unit) (Int × Unit)) :=
  if (decide (i6 < 8)) = true then (if (0 : Int) ≤ (IntKind.u64.wrap i6) then (if ((Int.tmod (Int.fdiv (IntKind.i64.wrap b1) (2 ^ (min (Int.toNat (IntKind.u64.wrap i6)) IntKind.i64.bits))) 2) == 1) = true then (if (0 : Int) ≤ (IntKind.u64.wrap i6) then (rec a0 b1 (bits .xor .i64 p5 (IntKind.i64.wrap ((IntKind.i64.wrap a0) * 2 ^ (min (Int.toNat (IntKind.u64.wrap i6)) IntKind.i64.bits)))) (IntKind.i64.wrap (i6 + 1))) else none) else (rec a0 b1 p5 (IntKind.i64.wrap (i6 + 1)))) else none) else (some (.norm (p5, ())))
noncomputable def ref02_Times_l0 (K : Nat) (n : Nat) : Int → Int → Int → Int → Option (Out (Int × Unit) (Int × Unit)) := iter (fun _ _ _ _ => none) (ref02_Times_l0_b K) n
noncomputable def ref02_Times_l1_b (K : Nat) (rec : Int → Int → Option (Out (Int × Unit) (Int × Unit))) (p5 : Int) (i7 : Int) : Option (Out (Int × Unit) (Int × Unit)) :=
  if (decide (i7 ≥ 8)) = true then (if (0 : Int) ≤ (IntKind.u64.wrap i7) then (if ((Int.tmod (Int.fdiv p5 (2 ^ (min (Int.toNat (IntKind.u64.wrap i7)) IntKind.i64.bits))) 2) == 1) = true then (if (0 : Int) ≤ (IntKind.u64.wrap (IntKind.i64.wrap (i7 - 8))) then (rec (bits .xor .i64 p5 (IntKind.i64.wrap (283 * 2 ^ (min (Int.toNat (IntKind.u64.wrap (IntKind.i64.wrap (i7 - 8)))) IntKind.i64.bits)))) (IntKind.i64.wrap (i7 - 1))) else none) else (rec p5 (IntKind.i64.wrap (i7 - 1)))) else none) else (some (.norm (p5, ())))
noncomputable def ref02_Times_l1 (K : Nat) (n : Nat) : Int → Int → Option (Out (Int × Unit) (Int × Unit)) := iter (fun _ _ => none) (ref02_Times_l1_b K) n
/-- coffer/cofferref02.Times -/
noncomputable def ref02_Times (K : Nat) (a0 : Int) (b1 : Int) : Option (Int × Unit) :=
  (ref02_Times_l0 K K a0 b1 0 0).bind fun y_1 =>
  (match y_1 with
  | .norm z_2n => ((ref02_Times_l1 K K z_2n.1 14).bind fun y_3 =>
  (match y_3 with
  | .norm z_4n => (some ((IntKind.u8.wrap z_4n.1), ()))
  | .ret z_4r => (some (z_4r.1, ()))))
  | .ret z_2r => (some (z_2r.1, ())))
theorem ref02_Times_l0_ok (K : Nat) (n : Nat) : StmtQOk prog [(0, .int .u8), (1, .int .u8), (5, .int .i64), (6, .int .i64)] [(5, .int .i64)] [(4, .int .u8)] [(5, 7), (8, 26)] ((fun n x w => ref02_Times_l0 K n x.1 x.2.1 x.2.2.1 x.2.2.2.1) n) (.block 0 (.loop (cd (bodyOf f102) [1, 1, 0, 1, 0, 0]))) :=
    mk_loopQ (O := tabL []) (root := (bodyOf f102)) (π := [1, 1, 0, 1, 0, 0]) (id := 0) (Li := [(0, .int .u8), (1, .int .u8), (5, .int .i64), (6, .int .i64)]) (Lo := [(5, .int .i64)]) (Lr := [(4, .int .u8)]) (S := (fun n x w => ref02_Times_l0 K n x.1 x.2.1 x.2.2.1 x.2.2.2.1)) (body := cd (bodyOf f102) [1, 1, 0, 1, 0, 0]) (ref02_Times_Rok K) (OrcQ.nil _ _ _) (by kernel_rfl) (fun _ _ => by kernel_rfl) (fun _ _ _ => by kernel_rfl) n
noncomputable def ref02_Times_l0_se (K : Nat) : SQ := stmtQ [(0, .int .u8), (1, .int .u8), (5, .int .i64), (6, .int .i64)] [(5, .int .i64)] [(4, .int .u8)] [(5, 7), (8, 26)] (fun x w => ref02_Times_l0 K K x.1 x.2.1 x.2.2.1 x.2.2.2.1)
theorem ref02_Times_l0_se_ok (K : Nat) (R : Rg) (h : subRB [(5, 7), (8, 26)] R = true) : (ref02_Times_l0_se K).Ok prog R (.block 0 (.loop (cd (bodyOf f102) [1, 1, 0, 1, 0, 0]))) := stmtQ_ok (Li := [(0, .int .u8), (1, .int .u8), (5, .int .i64), (6, .int .i64)]) (Lo := [(5, .int .i64)]) (Lr := [(4, .int .u8)]) (S := (fun x w => ref02_Times_l0 K K x.1 x.2.1 x.2.2.1 x.2.2.2.1)) (ref02_Times_l0_ok K K) (subR_of h)
theorem ref02_Times_l1_ok (K : Nat) (n : Nat) : StmtQOk prog [(5, .int .i64), (7, .int .i64)] [(5, .int .i64)] [(4, .int .u8)] [(5, 6), (7, 8), (26, 42)] ((fun n x w => ref02_Times_l1 K n x.1 x.2.1) n) (.block 2 (.loop (cd (bodyOf f102) [1, 1, 1, 0, 1, 0, 0]))) :=
    mk_loopQ (O := tabL []) (root := (bodyOf f102)) (π := [1, 1, 1, 0, 1, 0, 0]) (id := 2) (Li := [(5, .int .i64), (7, .int .i64)]) (Lo := [(5, .int .i64)]) (Lr := [(4, .int .u8)]) (S := (fun n x w => ref02_Times_l1 K n x.1 x.2.1)) (body := cd (bodyOf f102) [1, 1, 1, 0, 1, 0, 0]) (ref02_Times_Rok K) (OrcQ.nil _ _ _) (by kernel_rfl) (fun _ _ => by kernel_rfl) (fun _ _ _ => by kernel_rfl) n
noncomputable def ref02_Times_l1_se (K : Nat) : SQ := stmtQ [(5, .int .i64), (7, .int .i64)] [(5, .int .i64)] [(4, .int .u8)] [(5, 6), (7, 8), (26, 42)] (fun x w => ref02_Times_l1 K K x.1 x.2.1)
theorem ref02_Times_l1_se_ok (K : Nat) (R : Rg) (h : subRB [(5, 6), (7, 8), (26, 42)] R = true) : (ref02_Times_l1_se K).Ok prog R (.block 2 (.loop (cd (bodyOf f102) [1, 1, 1, 0, 1, 0, 0]))) := stmtQ_ok (Li := [(5, .int .i64), (7, .int .i64)]) (Lo := [(5, .int .i64)]) (Lr := [(4, .int .u8)]) (S := (fun x w => ref02_Times_l1 K K x.1 x.2.1)) (ref02_Times_l1_ok K K) (subR_of h)
theorem ref02_Times_facts : FunFacts prog 102 f102 (bodyOf f102) [(0, .int .u8), (1, .int .u8)] [(0, 44)] := ⟨func102, by kernel_rfl, by kernel_rfl, by kernel_rfl, by kernel_rfl, by kernel_rfl⟩
theorem ref02_Times_calls (K : Nat) (x : TT [(0, .int .u8), (1, .int .u8)]) (w : World) (y : TR [.int .u8]) (h : ref02_Times K x.1 x.2.1 = some y) : Calls prog 102 (encA [(0, .int .u8), (1, .int .u8)] x).toArray w (fun e w3 => e = .returned (resV (encR [.int .u8] y)) ∧ w3 = w) :=
    mk_funQ (O := tabL [([1, 1, 0, 1], ref02_Times_l0_se K), ([1, 1, 1, 0, 1], ref02_Times_l1_se K)]) (Lp := [(0, .int .u8), (1, .int .u8)]) (Rt := [.int .u8]) (S := (fun x w => ref02_Times K x.1 x.2.1)) (ref02_Times_Rok K) ref02_Times_facts (OrcQ.cons (by kernel_rfl) (ref02_Times_l0_se_ok K [(0, 44)] (by kernel_rfl)) (OrcQ.cons (by kernel_rfl) (ref02_Times_l1_se_ok K [(0, 44)] (by kernel_rfl)) (OrcQ.nil _ _ _))) (fun _ _ => by kernel_rfl) x w y h
noncomputable def ref02_Times_re (K : Nat) : RE := funR [(0, .int .u8), (1, .int .u8)] [.int .u8] (fun x w => ref02_Times K x.1 x.2.1)
theorem ref02_Times_ok (K : Nat) : (ref02_Times_re K).Ok prog 102 := funR_ok (Rt := [.int .u8]) (S := (fun x w => ref02_Times K x.1 x.2.1)) ref02_Times_facts fun x w y h => ref02_Times_calls K x w y h

noncomputable def ref11_times_R (K : Nat) : List (Nat × RE) := [(102, ref02_Times_re K)]
theorem ref11_times_Rok (K : Nat) : REnv.Ok prog (tab (ref11_times_R K)) := (REnv.cons (ref02_Times_ok K) (REnv.nil _))
/-- coffer/cofferref11.times -/
noncomputable def ref11_times (K : Nat) (a0 : Int) (b1 : Int) : Option (Int × Unit) :=
  (ref02_Times K a0 b1).bind fun r_1 =>
  some (r_1.1, ())
theorem ref11_times_facts : FunFacts prog 76 f76 (bodyOf f76) [(0, .int .u8), (1, .int .u8)] [(0, 8)] := ⟨func76, by kernel_rfl, by kernel_rfl, by kernel_rfl, by kernel_rfl, by kernel_rfl⟩
theorem ref11_times_calls (K : Nat) (x : TT [(0, .int .u8), (1, .int .u8)]) (w : World) (y : TR [.int .u8]) (h : ref11_times K x.1 x.2.1 = some y) : Calls prog 76 (encA [(0, .int .u8), (1, .int .u8)] x).toArray w (fun e w3 => e = .returned (resV (encR [.int .u8] y)) ∧ w3 = w) :=
    mk_funQ (O := tabL []) (Lp := [(0, .int .u8), (1, .int .u8)]) (Rt := [.int .u8]) (S := (fun x w => ref11_times K x.1 x.2.1)) (ref11_times_Rok K) ref11_times_facts (OrcQ.nil _ _ _) (fun _ _ => by kernel_rfl) x w y h
noncomputable def ref11_times_re (K : Nat) : RE := funR [(0, .int .u8), (1, .int .u8)] [.int .u8] (fun x w => ref11_times K x.1 x.2.1)
theorem ref11_times_ok (K : Nat) : (ref11_times_re K).Ok prog 76 := funR_ok (Rt := [.int .u8]) (S := (fun x w => ref11_times K x.1 x.2.1)) ref11_times_facts fun x w y h => ref11_times_calls K x w y h

noncomputable def ref11_power_R (K : Nat) : List (Nat × RE) := [(76, ref11_times_re K)]
theorem ref11_power_Rok (K : Nat) : REnv.Ok prog (tab (ref11_power_R K)) := (REnv.cons (ref11_times_ok K) (REnv.nil _))
noncomputable def ref11_power_l0_b (K : Nat) (rec : Int → Int → Int → Int → Option (Out (Int × Unit) (Int × Unit))) (b0 : Int) (n1 : Int) (v5 : Int) (i6 : Int) : Option (Out (Int × Unit) (Int × Unit)) :=
  if (decide (i6 < n1)) = true then ((ref11_times K v5 b0).bind fun r_1 =>
  rec b0 n1 r_1.1 (IntKind.i64.wrap (i6 + 1))) else (some (.norm (v5, ())))
noncomputable def ref11_power_l0 (K : Nat) (n : Nat) : Int → Int → Int → Int → Option (Out (Int × Unit) (Int × Unit)) := iter (fun _ _ _ _ => none) (ref11_power_l0_b K) n
/-- coffer/cofferref11.power -/
noncomputable def ref11_power (K : Nat) (b0 : Int) (n1 : Int) : Option (Int × Unit) :=
  (ref11_power_l0 K K b0 n1 1 0).bind fun y_2 =>
  (match y_2 with
  | .norm z_3n => (some (z_3n.1, ()))
  | .ret z_3r => (some (z_3r.1, ())))
theorem ref11_power_l0_ok (K : Nat) (n : Nat) : StmtQOk prog [(0, .int .u8), (1, .int .i64), (5, .int .u8), (6, .int .i64)] [(5, .int .u8)] [(4, .int .u8)] [(5, 15)] ((fun n x w => ref11_power_l0 K n x.1 x.2.1 x.2.2.1 x.2.2.2.1) n) (.block 0 (.loop (cd (bodyOf f77) [1, 1, 0, 1, 0, 0]))) :=
    mk_loopQ (O := tabL []) (root := (bodyOf f77)) (π := [1, 1, 0, 1, 0, 0]) (id := 0) (Li := [(0, .int .u8), (1, .int .i64), (5, .int .u8), (6, .int .i64)]) (Lo := [(5, .int .u8)]) (Lr := [(4, .int .u8)]) (S := (fun n x w => ref11_power_l0 K n x.1 x.2.1 x.2.2.1 x.2.2.2.1)) (body := cd (bodyOf f77) [1, 1, 0, 1, 0, 0]) (ref11_power_Rok K) (OrcQ.nil _ _ _) (by kernel_rfl) (fun _ _ => by kernel_rfl) (fun _ _ _ => by kernel_rfl) n
noncomputable def ref11_power_l0_se (K : Nat) : SQ := stmtQ [(0, .int .u8), (1, .int .i64), (5, .int .u8), (6, .int .i64)] [(5, .int .u8)] [(4, .int .u8)] [(5, 15)] (fun x w => ref11_power_l0 K K x.1 x.2.1 x.2.2.1 x.2.2.2.1)
theorem ref11_power_l0_se_ok (K : Nat) (R : Rg) (h : subRB [(5, 15)] R = true) : (ref11_power_l0_se K).Ok prog R (.block 0 (.loop (cd (bodyOf f77) [1, 1, 0, 1, 0, 0]))) := stmtQ_ok (Li := [(0, .int .u8), (1, .int .i64), (5, .int .u8), (6, .int .i64)]) (Lo := [(5, .int .u8)]) (Lr := [(4, .int .u8)]) (S := (fun x w => ref11_power_l0 K K x.1 x.2.1 x.2.2.1 x.2.2.2.1)) (ref11_power_l0_ok K K) (subR_of h)
theorem ref11_power_facts : FunFacts prog 77 f77 (bodyOf f77) [(0, .int .u8), (1, .int .i64)] [(0, 16)] := ⟨func77, by kernel_rfl, by kernel_rfl, by kernel_rfl, by kernel_rfl, by kernel_rfl⟩
theorem ref11_power_calls (K : Nat) (x : TT [(0, .int .u8), (1, .int .i64)]) (w : World) (y : TR [.int .u8]) (h : ref11_power K x.1 x.2.1 = some y) : Calls prog 77 (encA [(0, .int .u8), (1, .int .i64)] x).toArray w (fun e w3 => e = .returned (resV (encR [.int .u8] y)) ∧ w3 = w) :=
    mk_funQ (O := tabL [([1, 1, 0, 1], ref11_power_l0_se K)]) (Lp := [(0, .int .u8), (1, .int .i64)]) (Rt := [.int .u8]) (S := (fun x w => ref11_power K x.1 x.2.1)) (ref11_power_Rok K) ref11_power_facts (OrcQ.cons (by kernel_rfl) (ref11_power_l0_se_ok K [(0, 16)] (by kernel_rfl)) (OrcQ.nil _ _ _)) (fun _ _ => by kernel_rfl) x w y h
noncomputable def ref11_power_re (K : Nat) : RE := funR [(0, .int .u8), (1, .int .i64)] [.int .u8] (fun x w => ref11_power K x.1 x.2.1)
theorem ref11_power_ok (K : Nat) : (ref11_power_re K).Ok prog 77 := funR_ok (Rt := [.int .u8]) (S := (fun x w => ref11_power K x.1 x.2.1)) ref11_power_facts fun x w y h => ref11_power_calls K x w y h

noncomputable def ref11_Value_E (K : Nat) : List (Nat × CE) := []
theorem ref11_Value_Eok (K : Nat) : Env.Ok prog (tab (ref11_Value_E K)) := (Env.nil _)
noncomputable def ref11_Value_R (K : Nat) : List (Nat × RE) := [(77, ref11_power_re K), (76, ref11_times_re K)]
theorem ref11_Value_Rok (K : Nat) : REnv.Ok prog (tab (ref11_Value_R K)) := (REnv.cons (ref11_power_ok K) (REnv.cons (ref11_times_ok K) (REnv.nil _)))
noncomputable def ref11_Value_l0_b (K : Nat) (rec : Sl → Int → Int → Int → World → Option ((Int × Unit) × World)) (l0 : Sl) (x1 : Int) (v5 : Int) (j6 : Int) (w : World) : Option ((Int × Unit) × World) :=
  if (decide (j6 < ((l0.len : Nat) : Int))) = true then ((l0.a).bind fun p_1 =>
  if (0 : Int) ≤ j6 ∧ j6 < ((l0.len : Nat) : Int) then ((ldI .u8 (p_1.add ((Int.toNat j6) * 1)) w.drew).bind fun v_2 =>
  (ref11_power K (IntKind.u8.wrap x1) j6).bind fun r_3 =>
  (ref11_times K v_2 r_3.1).bind fun r_4 =>
  rec l0 x1 (bits .xor .u8 v5 r_4.1) (IntKind.i64.wrap (j6 + 1)) w.drew) else none) else (some ((v5, ()), w))
noncomputable def ref11_Value_l0 (K : Nat) (n : Nat) : Sl → Int → Int → Int → World → Option ((Int × Unit) × World) := iter (fun _ _ _ _ _ => none) (ref11_Value_l0_b K) n
/-- coffer/cofferref11.Value -/
noncomputable def ref11_Value (K : Nat) (l0 : Sl) (x1 : Int) (w : World) : Option ((Int × Unit) × World) :=
  bnd (ref11_Value_l0 K K l0 x1 0 0 w) fun y_5 w_6 =>
  some ((y_5.1, ()), w_6)
theorem ref11_Value_l0_ok (K : Nat) (n : Nat) : StmtNOk prog [(0, .sl), (1, .int .i64), (5, .int .u8), (6, .int .i64)] [(5, .int .u8)] [(5, 24)] ((fun n x w => ref11_Value_l0 K n x.1 x.2.1 x.2.2.1 x.2.2.2.1 w) n) (.block 0 (.loop (cd (bodyOf f48) [1, 1, 0, 1, 0, 0]))) :=
    mk_loopN (O := tabL []) (root := (bodyOf f48)) (π := [1, 1, 0, 1, 0, 0]) (id := 0) (Li := [(0, .sl), (1, .int .i64), (5, .int .u8), (6, .int .i64)]) (Lo := [(5, .int .u8)]) (S := (fun n x w => ref11_Value_l0 K n x.1 x.2.1 x.2.2.1 x.2.2.2.1 w)) (body := cd (bodyOf f48) [1, 1, 0, 1, 0, 0]) (ref11_Value_Eok K) (ref11_Value_Rok K) rfl (Orc.nil _ _ _) (by kernel_rfl) (fun _ _ => by kernel_rfl) (fun _ _ _ => by kernel_rfl) n
noncomputable def ref11_Value_l0_se (K : Nat) : SE := stmtN [(0, .sl), (1, .int .i64), (5, .int .u8), (6, .int .i64)] [(5, .int .u8)] [(5, 24)] (fun x w => ref11_Value_l0 K K x.1 x.2.1 x.2.2.1 x.2.2.2.1 w)
theorem ref11_Value_l0_se_ok (K : Nat) (R : Rg) (h : subRB [(5, 24)] R = true) : (ref11_Value_l0_se K).Ok prog R (.block 0 (.loop (cd (bodyOf f48) [1, 1, 0, 1, 0, 0]))) := stmtN_ok (Li := [(0, .sl), (1, .int .i64), (5, .int .u8), (6, .int .i64)]) (Lo := [(5, .int .u8)]) (S := (fun x w => ref11_Value_l0 K K x.1 x.2.1 x.2.2.1 x.2.2.2.1 w)) (ref11_Value_l0_ok K K) (subR_of h)
theorem ref11_Value_facts : FunFacts prog 48 f48 (bodyOf f48) [(0, .sl), (1, .int .i64)] [(0, 25)] := ⟨func48, by kernel_rfl, by kernel_rfl, by kernel_rfl, by kernel_rfl, by kernel_rfl⟩
theorem ref11_Value_calls (K : Nat) (x : TT [(0, .sl), (1, .int .i64)]) (w : World) (y : TR [.int .u8]) (w2 : World) (h : ref11_Value K x.1 x.2.1 w = some (y, w2)) : Calls prog 48 (encA [(0, .sl), (1, .int .i64)] x).toArray w (fun e w3 => e = .returned (resV (encR [.int .u8] y)) ∧ w3 = w2) :=
    mk_fun (O := tabL [([1, 1, 0, 1], ref11_Value_l0_se K)]) (Lp := [(0, .sl), (1, .int .i64)]) (Rt := [.int .u8]) (S := (fun x w => ref11_Value K x.1 x.2.1 w)) (ref11_Value_Eok K) (ref11_Value_Rok K) rfl ref11_Value_facts (Orc.cons (by kernel_rfl) (ref11_Value_l0_se_ok K [(0, 25)] (by kernel_rfl)) (Orc.nil _ _ _)) (fun _ _ => by kernel_rfl) x w y w2 h
noncomputable def ref11_Value_ce (K : Nat) : CE := funE [(0, .sl), (1, .int .i64)] [.int .u8] (fun x w => ref11_Value K x.1 x.2.1 w)
theorem ref11_Value_ok (K : Nat) : (ref11_Value_ce K).Ok prog 48 := funE_ok (Rt := [.int .u8]) (S := (fun x w => ref11_Value K x.1 x.2.1 w)) ref11_Value_facts fun x w y w2 h => ref11_Value_calls K x w y w2 h

noncomputable def ref11_Powers_E (K : Nat) : List (Nat × CE) := []
theorem ref11_Powers_Eok (K : Nat) : Env.Ok prog (tab (ref11_Powers_E K)) := (Env.nil _)
noncomputable def ref11_Powers_R (K : Nat) : List (Nat × RE) := [(76, ref11_times_re K)]
theorem ref11_Powers_Rok (K : Nat) : REnv.Ok prog (tab (ref11_Powers_R K)) := (REnv.cons (ref11_times_ok K) (REnv.nil _))
noncomputable def ref11_Powers_l0_b (K : Nat) (rec : Int → Sl → Int → Int → World → Option ((Sl × Unit) × World)) (n0 : Int) (l3 : Sl) (v4 : Int) (i5 : Int) (w : World) : Option ((Sl × Unit) × World) :=
  if (decide (i5 < n0)) = true then (bnd (bldS prog 23 1 #[(0, (.int .u8 v4))] w) fun s_1 w_2 =>
  bnd (apd prog 23 23 (.slice l3.a l3.len l3.cap) (.slice s_1.a s_1.len s_1.cap) w_2) fun s_3 w_4 =>
  (ref11_times K v4 3).bind fun r_5 =>
  rec n0 s_3 r_5.1 (IntKind.i64.wrap (i5 + 1)) w_4) else (some ((l3, ()), w))
noncomputable def ref11_Powers_l0 (K : Nat) (n : Nat) : Int → Sl → Int → Int → World → Option ((Sl × Unit) × World) := iter (fun _ _ _ _ _ => none) (ref11_Powers_l0_b K) n
/-- coffer/cofferref11.Powers -/
noncomputable def ref11_Powers (K : Nat) (n0 : Int) (w : World) : Option ((Sl × Unit) × World) :=
  bnd (ref11_Powers_l0 K K n0 ⟨none, 0, 0⟩ 1 0 w) fun y_6 w_7 =>
  some ((y_6.1, ()), w_7)
theorem ref11_Powers_l0_ok (K : Nat) (n : Nat) : StmtNOk prog [(0, .int .i64), (3, .sl), (4, .int .u8), (5, .int .i64)] [(3, .sl)] [(3, 17)] ((fun n x w => ref11_Powers_l0 K n x.1 x.2.1 x.2.2.1 x.2.2.2.1 w) n) (.block 0 (.loop (cd (bodyOf f104) [1, 1, 1, 0, 1, 0, 0]))) :=
    mk_loopN (O := tabL []) (root := (bodyOf f104)) (π := [1, 1, 1, 0, 1, 0, 0]) (id := 0) (Li := [(0, .int .i64), (3, .sl), (4, .int .u8), (5, .int .i64)]) (Lo := [(3, .sl)]) (S := (fun n x w => ref11_Powers_l0 K n x.1 x.2.1 x.2.2.1 x.2.2.2.1 w)) (body := cd (bodyOf f104) [1, 1, 1, 0, 1, 0, 0]) (ref11_Powers_Eok K) (ref11_Powers_Rok K) rfl (Orc.nil _ _ _) (by kernel_rfl) (fun _ _ => by kernel_rfl) (fun _ _ _ => by kernel_rfl) n
noncomputable def ref11_Powers_l0_se (K : Nat) : SE := stmtN [(0, .int .i64), (3, .sl), (4, .int .u8), (5, .int .i64)] [(3, .sl)] [(3, 17)] (fun x w => ref11_Powers_l0 K K x.1 x.2.1 x.2.2.1 x.2.2.2.1 w)
theorem ref11_Powers_l0_se_ok (K : Nat) (R : Rg) (h : subRB [(3, 17)] R = true) : (ref11_Powers_l0_se K).Ok prog R (.block 0 (.loop (cd (bodyOf f104) [1, 1, 1, 0, 1, 0, 0]))) := stmtN_ok (Li := [(0, .int .i64), (3, .sl), (4, .int .u8), (5, .int .i64)]) (Lo := [(3, .sl)]) (S := (fun x w => ref11_Powers_l0 K K x.1 x.2.1 x.2.2.1 x.2.2.2.1 w)) (ref11_Powers_l0_ok K K) (subR_of h)
theorem ref11_Powers_facts : FunFacts prog 104 f104 (bodyOf f104) [(0, .int .i64)] [(0, 18)] := ⟨func104, by kernel_rfl, by kernel_rfl, by kernel_rfl, by kernel_rfl, by kernel_rfl⟩
theorem ref11_Powers_calls (K : Nat) (x : TT [(0, .int .i64)]) (w : World) (y : TR [.sl]) (w2 : World) (h : ref11_Powers K x.1 w = some (y, w2)) : Calls prog 104 (encA [(0, .int .i64)] x).toArray w (fun e w3 => e = .returned (resV (encR [.sl] y)) ∧ w3 = w2) :=
    mk_fun (O := tabL [([1, 1, 1, 0, 1], ref11_Powers_l0_se K)]) (Lp := [(0, .int .i64)]) (Rt := [.sl]) (S := (fun x w => ref11_Powers K x.1 w)) (ref11_Powers_Eok K) (ref11_Powers_Rok K) rfl ref11_Powers_facts (Orc.cons (by kernel_rfl) (ref11_Powers_l0_se_ok K [(0, 18)] (by kernel_rfl)) (Orc.nil _ _ _)) (fun _ _ => by kernel_rfl) x w y w2 h
noncomputable def ref11_Powers_ce (K : Nat) : CE := funE [(0, .int .i64)] [.sl] (fun x w => ref11_Powers K x.1 w)
theorem ref11_Powers_ok (K : Nat) : (ref11_Powers_ce K).Ok prog 104 := funE_ok (Rt := [.sl]) (S := (fun x w => ref11_Powers K x.1 w)) ref11_Powers_facts fun x w y w2 h => ref11_Powers_calls K x w y w2 h

end Go.Sh
