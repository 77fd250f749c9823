/- Texts of this claim, put together: Sh8, Sh9, Sh10 -/
import Derived.Test.YtgmdbhckccmhjaaDoorAllShmcoafm
/- What functions of the program do, as Lean functions; that the machine does just that. Printed by shal.py, a program of this claim's writer. -/
set_option maxRecDepth 100000
set_option linter.unusedVariables false
namespace Go.Sh
open Go.Fw Go.Proofs.Tryd

noncomputable def law01_DigestPrefixes_E (K : Nat) : List (Nat × CE) := [(35, digest_Stretch_ce K), (27, book_SameBytes_ce K), (37, digest_Extract_ce K), (53, digest_Expand_ce K)]
theorem law01_DigestPrefixes_Eok (K : Nat) : Env.Ok prog (tab (law01_DigestPrefixes_E K)) := (Env.cons (digest_Stretch_ok K) (Env.cons (book_SameBytes_ok K) (Env.cons (digest_Extract_ok K) (Env.cons (digest_Expand_ok K) (Env.nil _)))))
noncomputable def law01_DigestPrefixes_R (K : Nat) : List (Nat × RE) := [(49, law01_known_re), (26, law01_num_re)]
theorem law01_DigestPrefixes_Rok (K : Nat) : REnv.Ok prog (tab (law01_DigestPrefixes_R K)) := (REnv.cons (law01_known_ok) (REnv.cons (law01_num_ok) (REnv.nil _)))
noncomputable def law01_DigestPrefixes_s0 (K : Nat) (more1 : Int) (hash5 : Int) (pass6 : Sl) (salt7 : Sl) (turns8 : Int) (n9 : Int) (w : World) : Option ((Bool × Unit) × World) :=
  (law01_known hash5).bind fun r_8 =>
  if (!r_8.1) = true then (some ((true, ()), w)) else (if (decide (turns8 < 1)) = true then (some ((true, ()), w)) else (if (decide (turns8 > 20)) = true then (some ((true, ()), w)) else (if (decide (n9 < 1)) = true then (some ((true, ()), w)) else (if (decide (n9 > 300)) = true then (some ((true, ()), w)) else (if (decide (more1 < 0)) = true then (some ((true, ()), w)) else (if (decide (more1 > 300)) = true then (some ((true, ()), w)) else (some (((decide ((IntKind.i64.wrap (((pass6.len : Nat) : Int) + ((salt7.len : Nat) : Int))) > 65536)), ()), w))))))))
noncomputable def law01_DigestPrefixes_s1 (K : Nat) (more1 : Int) (n9 : Int) (a10 : Sl) (e11 : Int) (b12 : Sl) (f13 : Int) (w : World) : Option ((Bool × Unit) × World) :=
  (law01_num e11).bind fun r_15 =>
  if (r_15.1 != 0) = true then (some ((true, ()), w)) else ((law01_num f13).bind fun r_16 =>
  if (r_16.1 != 0) = true then (some ((true, ()), w)) else (if (((a10.len : Nat) : Int) != n9) = true then (some ((true, ()), w)) else (if (((b12.len : Nat) : Int) != (IntKind.i64.wrap (n9 + more1))) = true then (some ((true, ()), w)) else (if (0 : Int) ≤ n9 ∧ n9 ≤ ((b12.cap : Nat) : Int) then (bnd (book_SameBytes K a10 ⟨(sla b12.a 0 b12.cap 1), ((Int.toNat (n9)) - 0), (b12.cap - 0)⟩ w) fun r_17 w_18 =>
  some (((!r_17.1), ()), w_18)) else none))))
noncomputable def law01_DigestPrefixes_s2 (K : Nat) (hash5 : Int) (e11 : Int) (k14 : Sl) (w : World) : Option ((Bool × Unit) × World) :=
  (law01_num e11).bind fun r_23 =>
  if (r_23.1 != 0) = true then (some ((true, ()), w)) else (some (((((k14.len : Nat) : Int) != (IntKind.i64.wrap (Int.tdiv hash5 8))), ()), w))
/-- coffer/cofferlaw01.DigestPrefixes -/
noncomputable def law01_DigestPrefixes (K : Nat) (d0 : Array Value) (more1 : Int) (w : World) : Option ((Bool × Unit) × World) :=
  bnd (newB d0 42 w) fun p_1 w_2 =>
  (ldI .i64 (p_1.add 0) w_2).bind fun v_3 =>
  (ldS (p_1.add 1) w_2).bind fun v_4 =>
  (ldS (p_1.add 2) w_2).bind fun v_5 =>
  (ldI .i64 (p_1.add 4) w_2).bind fun v_6 =>
  (ldI .i64 (p_1.add 5) w_2).bind fun v_7 =>
  bnd (law01_DigestPrefixes_s0 K more1 v_3 v_4 v_5 v_6 v_7 w_2) fun y_9 w_10 =>
  if y_9.1 = true then (some ((true, ()), w_10)) else (bnd (digest_Stretch K v_3 v_4 v_5 v_6 v_7 w_10) fun r_11 w_12 =>
  bnd (digest_Stretch K v_3 v_4 v_5 v_6 (IntKind.i64.wrap (v_7 + more1)) w_12) fun r_13 w_14 =>
  bnd (law01_DigestPrefixes_s1 K more1 v_7 r_11.1 r_11.2.1 r_13.1 r_13.2.1 w_14) fun y_19 w_20 =>
  if y_19.1 = true then (some ((false, ()), w_20)) else (bnd (digest_Extract K v_3 v_5 v_4 w_20) fun r_21 w_22 =>
  bnd (law01_DigestPrefixes_s2 K v_3 r_21.2.1 r_21.1 w_22) fun y_24 w_25 =>
  if y_24.1 = true then (some ((false, ()), w_25)) else (bnd (digest_Expand K v_3 r_21.1 v_5 v_7 w_25) fun r_26 w_27 =>
  bnd (digest_Expand K v_3 r_21.1 v_5 (IntKind.i64.wrap (v_7 + more1)) w_27) fun r_28 w_29 =>
  (law01_num r_26.2.1).bind fun r_30 =>
  if (r_30.1 == 0) = true then ((law01_num r_28.2.1).bind fun r_31 =>
  if (r_31.1 == 0) = true then (if (((r_26.1.len : Nat) : Int) == v_7) = true then (if (((r_28.1.len : Nat) : Int) == (IntKind.i64.wrap (v_7 + more1))) = true then (if (0 : Int) ≤ v_7 ∧ v_7 ≤ ((r_28.1.cap : Nat) : Int) then (bnd (book_SameBytes K r_26.1 ⟨(sla r_28.1.a 0 r_28.1.cap 1), ((Int.toNat (v_7)) - 0), (r_28.1.cap - 0)⟩ w_29) fun r_32 w_33 =>
  some ((r_32.1, ()), w_33)) else none) else (some ((false, ()), w_29))) else (some ((false, ()), w_29))) else (some ((false, ()), w_29))) else (some ((false, ()), w_29)))))
theorem law01_DigestPrefixes_s0_ok (K : Nat) : StmtNOk prog [(1, .int .i64), (5, .int .i64), (6, .sl), (7, .sl), (8, .int .i64), (9, .int .i64)] [(61, .bool)] [(27, 62)] (fun x w => law01_DigestPrefixes_s0 K x.1 x.2.1 x.2.2.1 x.2.2.2.1 x.2.2.2.2.1 x.2.2.2.2.2.1 w) (cd (bodyOf f12) [1, 1, 1, 1, 1, 1, 0, 0]) :=
    mk_stmtN (O := tabL []) (root := (bodyOf f12)) (π := [1, 1, 1, 1, 1, 1, 0, 0]) (Li := [(1, .int .i64), (5, .int .i64), (6, .sl), (7, .sl), (8, .int .i64), (9, .int .i64)]) (Lo := [(61, .bool)]) (S := (fun x w => law01_DigestPrefixes_s0 K x.1 x.2.1 x.2.2.1 x.2.2.2.1 x.2.2.2.2.1 x.2.2.2.2.2.1 w)) (law01_DigestPrefixes_Eok K) (law01_DigestPrefixes_Rok K) rfl (Orc.nil _ _ _) (by kernel_rfl) (fun _ _ => by kernel_rfl)
noncomputable def law01_DigestPrefixes_s0_se (K : Nat) : SE := stmtN [(1, .int .i64), (5, .int .i64), (6, .sl), (7, .sl), (8, .int .i64), (9, .int .i64)] [(61, .bool)] [(27, 62)] (fun x w => law01_DigestPrefixes_s0 K x.1 x.2.1 x.2.2.1 x.2.2.2.1 x.2.2.2.2.1 x.2.2.2.2.2.1 w)
theorem law01_DigestPrefixes_s0_se_ok (K : Nat) (R : Rg) (h : subRB [(27, 62)] R = true) : (law01_DigestPrefixes_s0_se K).Ok prog R (cd (bodyOf f12) [1, 1, 1, 1, 1, 1, 0, 0]) := stmtN_ok (Li := [(1, .int .i64), (5, .int .i64), (6, .sl), (7, .sl), (8, .int .i64), (9, .int .i64)]) (Lo := [(61, .bool)]) (S := (fun x w => law01_DigestPrefixes_s0 K x.1 x.2.1 x.2.2.1 x.2.2.2.1 x.2.2.2.2.1 x.2.2.2.2.2.1 w)) (law01_DigestPrefixes_s0_ok K) (subR_of h)
theorem law01_DigestPrefixes_s1_ok (K : Nat) : StmtNOk prog [(1, .int .i64), (9, .int .i64), (10, .sl), (11, .int .i64), (12, .sl), (13, .int .i64)] [(111, .bool)] [(82, 112)] (fun x w => law01_DigestPrefixes_s1 K x.1 x.2.1 x.2.2.1 x.2.2.2.1 x.2.2.2.2.1 x.2.2.2.2.2.1 w) (cd (bodyOf f12) [1, 1, 1, 1, 1, 1, 1, 1, 1, 0, 0]) :=
    mk_stmtN (O := tabL []) (root := (bodyOf f12)) (π := [1, 1, 1, 1, 1, 1, 1, 1, 1, 0, 0]) (Li := [(1, .int .i64), (9, .int .i64), (10, .sl), (11, .int .i64), (12, .sl), (13, .int .i64)]) (Lo := [(111, .bool)]) (S := (fun x w => law01_DigestPrefixes_s1 K x.1 x.2.1 x.2.2.1 x.2.2.2.1 x.2.2.2.2.1 x.2.2.2.2.2.1 w)) (law01_DigestPrefixes_Eok K) (law01_DigestPrefixes_Rok K) rfl (Orc.nil _ _ _) (by kernel_rfl) (fun _ _ => by kernel_rfl)
noncomputable def law01_DigestPrefixes_s1_se (K : Nat) : SE := stmtN [(1, .int .i64), (9, .int .i64), (10, .sl), (11, .int .i64), (12, .sl), (13, .int .i64)] [(111, .bool)] [(82, 112)] (fun x w => law01_DigestPrefixes_s1 K x.1 x.2.1 x.2.2.1 x.2.2.2.1 x.2.2.2.2.1 x.2.2.2.2.2.1 w)
theorem law01_DigestPrefixes_s1_se_ok (K : Nat) (R : Rg) (h : subRB [(82, 112)] R = true) : (law01_DigestPrefixes_s1_se K).Ok prog R (cd (bodyOf f12) [1, 1, 1, 1, 1, 1, 1, 1, 1, 0, 0]) := stmtN_ok (Li := [(1, .int .i64), (9, .int .i64), (10, .sl), (11, .int .i64), (12, .sl), (13, .int .i64)]) (Lo := [(111, .bool)]) (S := (fun x w => law01_DigestPrefixes_s1 K x.1 x.2.1 x.2.2.1 x.2.2.2.1 x.2.2.2.2.1 x.2.2.2.2.2.1 w)) (law01_DigestPrefixes_s1_ok K) (subR_of h)
theorem law01_DigestPrefixes_s2_ok (K : Nat) : StmtNOk prog [(5, .int .i64), (11, .int .i64), (14, .sl)] [(128, .bool)] [(119, 129)] (fun x w => law01_DigestPrefixes_s2 K x.1 x.2.1 x.2.2.1 w) (cd (bodyOf f12) [1, 1, 1, 1, 1, 1, 1, 1, 1, 1, 1, 0, 0]) :=
    mk_stmtN (O := tabL []) (root := (bodyOf f12)) (π := [1, 1, 1, 1, 1, 1, 1, 1, 1, 1, 1, 0, 0]) (Li := [(5, .int .i64), (11, .int .i64), (14, .sl)]) (Lo := [(128, .bool)]) (S := (fun x w => law01_DigestPrefixes_s2 K x.1 x.2.1 x.2.2.1 w)) (law01_DigestPrefixes_Eok K) (law01_DigestPrefixes_Rok K) rfl (Orc.nil _ _ _) (by kernel_rfl) (fun _ _ => by kernel_rfl)
noncomputable def law01_DigestPrefixes_s2_se (K : Nat) : SE := stmtN [(5, .int .i64), (11, .int .i64), (14, .sl)] [(128, .bool)] [(119, 129)] (fun x w => law01_DigestPrefixes_s2 K x.1 x.2.1 x.2.2.1 w)
theorem law01_DigestPrefixes_s2_se_ok (K : Nat) (R : Rg) (h : subRB [(119, 129)] R = true) : (law01_DigestPrefixes_s2_se K).Ok prog R (cd (bodyOf f12) [1, 1, 1, 1, 1, 1, 1, 1, 1, 1, 1, 0, 0]) := stmtN_ok (Li := [(5, .int .i64), (11, .int .i64), (14, .sl)]) (Lo := [(128, .bool)]) (S := (fun x w => law01_DigestPrefixes_s2 K x.1 x.2.1 x.2.2.1 w)) (law01_DigestPrefixes_s2_ok K) (subR_of h)
theorem law01_DigestPrefixes_facts : FunFacts prog 12 f12 (bodyOf f12) [(0, .agg), (1, .int .i64)] [(0, 176)] := ⟨func12, by kernel_rfl, by kernel_rfl, by kernel_rfl, by kernel_rfl, by kernel_rfl⟩
theorem law01_DigestPrefixes_calls (K : Nat) (x : TT [(0, .agg), (1, .int .i64)]) (w : World) (y : TR [.bool]) (w2 : World) (h : law01_DigestPrefixes K x.1 x.2.1 w = some (y, w2)) : Calls prog 12 (encA [(0, .agg), (1, .int .i64)] x).toArray w (fun e w3 => e = .returned (resV (encR [.bool] y)) ∧ w3 = w2) :=
    mk_fun (O := tabL [([1, 1, 1, 1, 1, 1, 0, 0], law01_DigestPrefixes_s0_se K), ([1, 1, 1, 1, 1, 1, 1, 1, 1, 0, 0], law01_DigestPrefixes_s1_se K), ([1, 1, 1, 1, 1, 1, 1, 1, 1, 1, 1, 0, 0], law01_DigestPrefixes_s2_se K)]) (Lp := [(0, .agg), (1, .int .i64)]) (Rt := [.bool]) (S := (fun x w => law01_DigestPrefixes K x.1 x.2.1 w)) (law01_DigestPrefixes_Eok K) (law01_DigestPrefixes_Rok K) rfl law01_DigestPrefixes_facts (Orc.cons (by kernel_rfl) (law01_DigestPrefixes_s0_se_ok K [(0, 176)] (by kernel_rfl)) (Orc.cons (by kernel_rfl) (law01_DigestPrefixes_s1_se_ok K [(0, 176)] (by kernel_rfl)) (Orc.cons (by kernel_rfl) (law01_DigestPrefixes_s2_se_ok K [(0, 176)] (by kernel_rfl)) (Orc.nil _ _ _)))) (fun _ _ => by kernel_rfl) x w y w2 h
noncomputable def law01_DigestPrefixes_ce (K : Nat) : CE := funE [(0, .agg), (1, .int .i64)] [.bool] (fun x w => law01_DigestPrefixes K x.1 x.2.1 w)
theorem law01_DigestPrefixes_ok (K : Nat) : (law01_DigestPrefixes_ce K).Ok prog 12 := funE_ok (Rt := [.bool]) (S := (fun x w => law01_DigestPrefixes K x.1 x.2.1 w)) law01_DigestPrefixes_facts fun x w y w2 h => law01_DigestPrefixes_calls K x w y w2 h

noncomputable def digest_Stream_Hash_R : List (Nat × RE) := []
theorem digest_Stream_Hash_Rok : REnv.Ok prog (tab (digest_Stream_Hash_R)) := (REnv.nil _)
/-- (*coffer/digest.Stream).Hash -/
noncomputable def digest_Stream_Hash (s0 : Option Addr) (w : World) : Option (Int × Unit) :=
  if s0.isNone = true then (some (0, ())) else ((s0).bind fun p_1 =>
  (ldI .i64 ((p_1.add 0).add 4) w).bind fun v_2 =>
  some (v_2, ()))
theorem digest_Stream_Hash_facts : FunFacts prog 54 f54 (bodyOf f54) [(0, .ptr)] [(0, 10)] := ⟨func54, by kernel_rfl, by kernel_rfl, by kernel_rfl, by kernel_rfl, by kernel_rfl⟩
theorem digest_Stream_Hash_calls (x : TT [(0, .ptr)]) (w : World) (y : TR [.int .i64]) (h : digest_Stream_Hash x.1 w = some y) : Calls prog 54 (encA [(0, .ptr)] x).toArray w (fun e w3 => e = .returned (resV (encR [.int .i64] y)) ∧ w3 = w) :=
    mk_funQ (O := tabL []) (Lp := [(0, .ptr)]) (Rt := [.int .i64]) (S := (fun x w => digest_Stream_Hash x.1 w)) (digest_Stream_Hash_Rok) digest_Stream_Hash_facts (OrcQ.nil _ _ _) (fun _ _ => by kernel_rfl) x w y h
noncomputable def digest_Stream_Hash_re : RE := funR [(0, .ptr)] [.int .i64] (fun x w => digest_Stream_Hash x.1 w)
theorem digest_Stream_Hash_ok : (digest_Stream_Hash_re).Ok prog 54 := funR_ok (Rt := [.int .i64]) (S := (fun x w => digest_Stream_Hash x.1 w)) digest_Stream_Hash_facts fun x w y h => digest_Stream_Hash_calls x w y h

noncomputable def digest_Stream_Size_R : List (Nat × RE) := []
theorem digest_Stream_Size_Rok : REnv.Ok prog (tab (digest_Stream_Size_R)) := (REnv.nil _)
/-- (*coffer/digest.Stream).Size -/
noncomputable def digest_Stream_Size (s0 : Option Addr) (w : World) : Option (Int × Unit) :=
  if s0.isNone = true then (some (0, ())) else ((s0).bind fun p_1 =>
  (ldI .i64 (((p_1.add 0).add 0).add 0) w).bind fun v_2 =>
  some (v_2, ()))
theorem digest_Stream_Size_facts : FunFacts prog 55 f55 (bodyOf f55) [(0, .ptr)] [(0, 11)] := ⟨func55, by kernel_rfl, by kernel_rfl, by kernel_rfl, by kernel_rfl, by kernel_rfl⟩
theorem digest_Stream_Size_calls (x : TT [(0, .ptr)]) (w : World) (y : TR [.int .i64]) (h : digest_Stream_Size x.1 w = some y) : Calls prog 55 (encA [(0, .ptr)] x).toArray w (fun e w3 => e = .returned (resV (encR [.int .i64] y)) ∧ w3 = w) :=
    mk_funQ (O := tabL []) (Lp := [(0, .ptr)]) (Rt := [.int .i64]) (S := (fun x w => digest_Stream_Size x.1 w)) (digest_Stream_Size_Rok) digest_Stream_Size_facts (OrcQ.nil _ _ _) (fun _ _ => by kernel_rfl) x w y h
noncomputable def digest_Stream_Size_re : RE := funR [(0, .ptr)] [.int .i64] (fun x w => digest_Stream_Size x.1 w)
theorem digest_Stream_Size_ok : (digest_Stream_Size_re).Ok prog 55 := funR_ok (Rt := [.int .i64]) (S := (fun x w => digest_Stream_Size x.1 w)) digest_Stream_Size_facts fun x w y h => digest_Stream_Size_calls x w y h

noncomputable def digest_Stream_Block_R : List (Nat × RE) := []
theorem digest_Stream_Block_Rok : REnv.Ok prog (tab (digest_Stream_Block_R)) := (REnv.nil _)
/-- (*coffer/digest.Stream).Block -/
noncomputable def digest_Stream_Block (s0 : Option Addr) (w : World) : Option (Int × Unit) :=
  if s0.isNone = true then (some (0, ())) else ((s0).bind fun p_1 =>
  (ldI .i64 (((p_1.add 0).add 0).add 1) w).bind fun v_2 =>
  some (v_2, ()))
theorem digest_Stream_Block_facts : FunFacts prog 56 f56 (bodyOf f56) [(0, .ptr)] [(0, 11)] := ⟨func56, by kernel_rfl, by kernel_rfl, by kernel_rfl, by kernel_rfl, by kernel_rfl⟩
theorem digest_Stream_Block_calls (x : TT [(0, .ptr)]) (w : World) (y : TR [.int .i64]) (h : digest_Stream_Block x.1 w = some y) : Calls prog 56 (encA [(0, .ptr)] x).toArray w (fun e w3 => e = .returned (resV (encR [.int .i64] y)) ∧ w3 = w) :=
    mk_funQ (O := tabL []) (Lp := [(0, .ptr)]) (Rt := [.int .i64]) (S := (fun x w => digest_Stream_Block x.1 w)) (digest_Stream_Block_Rok) digest_Stream_Block_facts (OrcQ.nil _ _ _) (fun _ _ => by kernel_rfl) x w y h
noncomputable def digest_Stream_Block_re : RE := funR [(0, .ptr)] [.int .i64] (fun x w => digest_Stream_Block x.1 w)
theorem digest_Stream_Block_ok : (digest_Stream_Block_re).Ok prog 56 := funR_ok (Rt := [.int .i64]) (S := (fun x w => digest_Stream_Block x.1 w)) digest_Stream_Block_facts fun x w y h => digest_Stream_Block_calls x w y h

noncomputable def digest_Mac_Size_R : List (Nat × RE) := []
theorem digest_Mac_Size_Rok : REnv.Ok prog (tab (digest_Mac_Size_R)) := (REnv.nil _)
/-- (*coffer/digest.Mac).Size -/
noncomputable def digest_Mac_Size (m0 : Option Addr) (w : World) : Option (Int × Unit) :=
  if m0.isNone = true then (some (0, ())) else ((m0).bind fun p_1 =>
  (ldI .i64 ((((p_1.add 0).add 0).add 0).add 0) w).bind fun v_2 =>
  some (v_2, ()))
theorem digest_Mac_Size_facts : FunFacts prog 57 f57 (bodyOf f57) [(0, .ptr)] [(0, 12)] := ⟨func57, by kernel_rfl, by kernel_rfl, by kernel_rfl, by kernel_rfl, by kernel_rfl⟩
theorem digest_Mac_Size_calls (x : TT [(0, .ptr)]) (w : World) (y : TR [.int .i64]) (h : digest_Mac_Size x.1 w = some y) : Calls prog 57 (encA [(0, .ptr)] x).toArray w (fun e w3 => e = .returned (resV (encR [.int .i64] y)) ∧ w3 = w) :=
    mk_funQ (O := tabL []) (Lp := [(0, .ptr)]) (Rt := [.int .i64]) (S := (fun x w => digest_Mac_Size x.1 w)) (digest_Mac_Size_Rok) digest_Mac_Size_facts (OrcQ.nil _ _ _) (fun _ _ => by kernel_rfl) x w y h
noncomputable def digest_Mac_Size_re : RE := funR [(0, .ptr)] [.int .i64] (fun x w => digest_Mac_Size x.1 w)
theorem digest_Mac_Size_ok : (digest_Mac_Size_re).Ok prog 57 := funR_ok (Rt := [.int .i64]) (S := (fun x w => digest_Mac_Size x.1 w)) digest_Mac_Size_facts fun x w y h => digest_Mac_Size_calls x w y h

noncomputable def law01_DigestNone_E (K : Nat) : List (Nat × CE) := [(44, digest_Stream_Sum_ce K), (51, digest_Stream_Copy_ce), (42, digest_Stream_Write_ce K), (47, digest_Stream_Reset_ce K), (45, digest_Mac_Sum_ce K), (52, digest_Mac_Copy_ce), (43, digest_Mac_Write_ce K), (50, digest_Mac_Reset_ce), (40, digest_New_ce K), (41, digest_NewMac_ce K), (18, digest_Size_ce)]
theorem law01_DigestNone_Eok (K : Nat) : Env.Ok prog (tab (law01_DigestNone_E K)) := (Env.cons (digest_Stream_Sum_ok K) (Env.cons (digest_Stream_Copy_ok) (Env.cons (digest_Stream_Write_ok K) (Env.cons (digest_Stream_Reset_ok K) (Env.cons (digest_Mac_Sum_ok K) (Env.cons (digest_Mac_Copy_ok) (Env.cons (digest_Mac_Write_ok K) (Env.cons (digest_Mac_Reset_ok) (Env.cons (digest_New_ok K) (Env.cons (digest_NewMac_ok K) (Env.cons (digest_Size_ok) (Env.nil _))))))))))))
noncomputable def law01_DigestNone_R (K : Nat) : List (Nat × RE) := [(54, digest_Stream_Hash_re), (55, digest_Stream_Size_re), (56, digest_Stream_Block_re), (46, digest_Stream_Count_re), (26, law01_num_re), (57, digest_Mac_Size_re)]
theorem law01_DigestNone_Rok (K : Nat) : REnv.Ok prog (tab (law01_DigestNone_R K)) := (REnv.cons (digest_Stream_Hash_ok) (REnv.cons (digest_Stream_Size_ok) (REnv.cons (digest_Stream_Block_ok) (REnv.cons (digest_Stream_Count_ok) (REnv.cons (law01_num_ok) (REnv.cons (digest_Mac_Size_ok) (REnv.nil _)))))))
noncomputable def law01_DigestNone_s0 (K : Nat) (s1 : Option Addr) (w : World) : Option ((Bool × Unit) × World) :=
  (digest_Stream_Hash s1 w).bind fun r_1 =>
  if (r_1.1 != 0) = true then (some ((true, ()), w)) else ((digest_Stream_Size s1 w).bind fun r_2 =>
  if (r_2.1 != 0) = true then (some ((true, ()), w)) else ((digest_Stream_Block s1 w).bind fun r_3 =>
  if (r_3.1 != 0) = true then (some ((true, ()), w)) else ((digest_Stream_Count s1 w).bind fun r_4 =>
  if (r_4.1 != 0) = true then (some ((true, ()), w)) else (bnd (digest_Stream_Sum K s1 w) fun r_5 w_6 =>
  if (((r_5.1.len : Nat) : Int) != 0) = true then (some ((true, ()), w_6)) else (bnd (digest_Stream_Copy s1 w_6) fun r_7 w_8 =>
  if (!r_7.1.isNone) = true then (some ((true, ()), w_8)) else (bnd (bldS prog 25 1 #[(0, (.int .u8 1))] w_8) fun s_9 w_10 =>
  bnd (bldS prog 24 1 #[(0, (.slice s_9.a s_9.len s_9.cap))] w_10) fun s_11 w_12 =>
  bnd (digest_Stream_Write K s1 s_11 w_12) fun r_13 w_14 =>
  (law01_num r_13.1).bind fun r_15 =>
  if (r_15.1 != 1) = true then (some ((true, ()), w_14)) else (bnd (digest_Stream_Reset K s1 w_14) fun r_16 w_17 =>
  (law01_num r_16.1).bind fun r_18 =>
  some (((r_18.1 != 1), ()), w_17))))))))
noncomputable def law01_DigestNone_s1 (K : Nat) (m2 : Option Addr) (w : World) : Option ((Bool × Unit) × World) :=
  (digest_Mac_Size m2 w).bind fun r_21 =>
  if (r_21.1 != 0) = true then (some ((true, ()), w)) else (bnd (digest_Mac_Sum K m2 w) fun r_22 w_23 =>
  if (((r_22.1.len : Nat) : Int) != 0) = true then (some ((true, ()), w_23)) else (bnd (digest_Mac_Copy m2 w_23) fun r_24 w_25 =>
  if (!r_24.1.isNone) = true then (some ((true, ()), w_25)) else (bnd (digest_Mac_Write K m2 ⟨none, 0, 0⟩ w_25) fun r_26 w_27 =>
  (law01_num r_26.1).bind fun r_28 =>
  if (r_28.1 != 1) = true then (some ((true, ()), w_27)) else (bnd (digest_Mac_Reset m2 w_27) fun r_29 w_30 =>
  (law01_num r_29.1).bind fun r_31 =>
  some (((r_31.1 != 1), ()), w_30)))))
/-- coffer/cofferlaw01.DigestNone -/
noncomputable def law01_DigestNone (K : Nat)  (w : World) : Option ((Bool × Unit) × World) :=
  bnd (law01_DigestNone_s0 K none w) fun y_19 w_20 =>
  if y_19.1 = true then (some ((false, ()), w_20)) else (bnd (law01_DigestNone_s1 K none w_20) fun y_32 w_33 =>
  if y_32.1 = true then (some ((false, ()), w_33)) else (bnd (digest_New K 0 w_33) fun r_34 w_35 =>
  bnd (digest_NewMac K (-256) ⟨none, 0, 0⟩ w_35) fun r_36 w_37 =>
  if r_34.1.isNone = true then (if r_36.1.isNone = true then ((law01_num r_34.2.1).bind fun r_38 =>
  if (r_38.1 == 10) = true then ((law01_num r_36.2.1).bind fun r_39 =>
  if (r_39.1 == 10) = true then (bnd (digest_Size 256 w_37) fun r_40 w_41 =>
  some (((r_40.1 == 32), ()), w_41)) else (some ((false, ()), w_37))) else (some ((false, ()), w_37))) else (some ((false, ()), w_37))) else (some ((false, ()), w_37))))
theorem law01_DigestNone_s0_ok (K : Nat) : StmtNOk prog [(1, .ptr)] [(49, .bool)] [(7, 50)] (fun x w => law01_DigestNone_s0 K x.1 w) (cd (bodyOf f13) [1, 1, 1, 0, 0]) :=
    mk_stmtN (O := tabL []) (root := (bodyOf f13)) (π := [1, 1, 1, 0, 0]) (Li := [(1, .ptr)]) (Lo := [(49, .bool)]) (S := (fun x w => law01_DigestNone_s0 K x.1 w)) (law01_DigestNone_Eok K) (law01_DigestNone_Rok K) rfl (Orc.nil _ _ _) (by kernel_rfl) (fun _ _ => by kernel_rfl)
noncomputable def law01_DigestNone_s0_se (K : Nat) : SE := stmtN [(1, .ptr)] [(49, .bool)] [(7, 50)] (fun x w => law01_DigestNone_s0 K x.1 w)
theorem law01_DigestNone_s0_se_ok (K : Nat) (R : Rg) (h : subRB [(7, 50)] R = true) : (law01_DigestNone_s0_se K).Ok prog R (cd (bodyOf f13) [1, 1, 1, 0, 0]) := stmtN_ok (Li := [(1, .ptr)]) (Lo := [(49, .bool)]) (S := (fun x w => law01_DigestNone_s0 K x.1 w)) (law01_DigestNone_s0_ok K) (subR_of h)
theorem law01_DigestNone_s1_ok (K : Nat) : StmtNOk prog [(2, .ptr)] [(75, .bool)] [(50, 76)] (fun x w => law01_DigestNone_s1 K x.1 w) (cd (bodyOf f13) [1, 1, 1, 1, 0, 0]) :=
    mk_stmtN (O := tabL []) (root := (bodyOf f13)) (π := [1, 1, 1, 1, 0, 0]) (Li := [(2, .ptr)]) (Lo := [(75, .bool)]) (S := (fun x w => law01_DigestNone_s1 K x.1 w)) (law01_DigestNone_Eok K) (law01_DigestNone_Rok K) rfl (Orc.nil _ _ _) (by kernel_rfl) (fun _ _ => by kernel_rfl)
noncomputable def law01_DigestNone_s1_se (K : Nat) : SE := stmtN [(2, .ptr)] [(75, .bool)] [(50, 76)] (fun x w => law01_DigestNone_s1 K x.1 w)
theorem law01_DigestNone_s1_se_ok (K : Nat) (R : Rg) (h : subRB [(50, 76)] R = true) : (law01_DigestNone_s1_se K).Ok prog R (cd (bodyOf f13) [1, 1, 1, 1, 0, 0]) := stmtN_ok (Li := [(2, .ptr)]) (Lo := [(75, .bool)]) (S := (fun x w => law01_DigestNone_s1 K x.1 w)) (law01_DigestNone_s1_ok K) (subR_of h)
theorem law01_DigestNone_facts : FunFacts prog 13 f13 (bodyOf f13) [] [(0, 104)] := ⟨func13, by kernel_rfl, by kernel_rfl, by kernel_rfl, by kernel_rfl, by kernel_rfl⟩
theorem law01_DigestNone_calls (K : Nat) (x : TT []) (w : World) (y : TR [.bool]) (w2 : World) (h : law01_DigestNone K  w = some (y, w2)) : Calls prog 13 (encA [] x).toArray w (fun e w3 => e = .returned (resV (encR [.bool] y)) ∧ w3 = w2) :=
    mk_fun (O := tabL [([1, 1, 1, 0, 0], law01_DigestNone_s0_se K), ([1, 1, 1, 1, 0, 0], law01_DigestNone_s1_se K)]) (Lp := []) (Rt := [.bool]) (S := (fun x w => law01_DigestNone K  w)) (law01_DigestNone_Eok K) (law01_DigestNone_Rok K) rfl law01_DigestNone_facts (Orc.cons (by kernel_rfl) (law01_DigestNone_s0_se_ok K [(0, 104)] (by kernel_rfl)) (Orc.cons (by kernel_rfl) (law01_DigestNone_s1_se_ok K [(0, 104)] (by kernel_rfl)) (Orc.nil _ _ _))) (fun _ _ => by kernel_rfl) x w y w2 h
noncomputable def law01_DigestNone_ce (K : Nat) : CE := funE [] [.bool] (fun x w => law01_DigestNone K  w)
theorem law01_DigestNone_ok (K : Nat) : (law01_DigestNone_ce K).Ok prog 13 := funE_ok (Rt := [.bool]) (S := (fun x w => law01_DigestNone K  w)) law01_DigestNone_facts fun x w y w2 h => law01_DigestNone_calls K x w y w2 h

noncomputable def law01_place_R : List (Nat × RE) := []
theorem law01_place_Rok : REnv.Ok prog (tab (law01_place_R)) := (REnv.nil _)
/-- coffer/cofferlaw01.place -/
noncomputable def law01_place (n0 : Int) : Option (Int × Unit) :=
  if (decide ((Int.tmod n0 3) < 0)) = true then (some ((IntKind.i64.wrap ((Int.tmod n0 3) + 3)), ())) else (some ((Int.tmod n0 3), ()))
theorem law01_place_facts : FunFacts prog 85 f85 (bodyOf f85) [(0, .int .i64)] [(0, 10)] := ⟨func85, by kernel_rfl, by kernel_rfl, by kernel_rfl, by kernel_rfl, by kernel_rfl⟩
theorem law01_place_calls (x : TT [(0, .int .i64)]) (w : World) (y : TR [.int .i64]) (h : law01_place x.1 = some y) : Calls prog 85 (encA [(0, .int .i64)] x).toArray w (fun e w3 => e = .returned (resV (encR [.int .i64] y)) ∧ w3 = w) :=
    mk_funQ (O := tabL []) (Lp := [(0, .int .i64)]) (Rt := [.int .i64]) (S := (fun x w => law01_place x.1)) (law01_place_Rok) law01_place_facts (OrcQ.nil _ _ _) (fun _ _ => by kernel_rfl) x w y h
noncomputable def law01_place_re : RE := funR [(0, .int .i64)] [.int .i64] (fun x w => law01_place x.1)
theorem law01_place_ok : (law01_place_re).Ok prog 85 := funR_ok (Rt := [.int .i64]) (S := (fun x w => law01_place x.1)) law01_place_facts fun x w y h => law01_place_calls x w y h

noncomputable def law01_three_keyed_E (K : Nat) : List (Nat × CE) := [(30, book_Bytes_ce K), (41, digest_NewMac_ce K), (33, book_WholeBytes_ce K), (29, book_SpoilBytes_ce K)]
theorem law01_three_keyed_Eok (K : Nat) : Env.Ok prog (tab (law01_three_keyed_E K)) := (Env.cons (book_Bytes_ok K) (Env.cons (digest_NewMac_ok K) (Env.cons (book_WholeBytes_ok K) (Env.cons (book_SpoilBytes_ok K) (Env.nil _)))))
noncomputable def law01_three_keyed_R (K : Nat) : List (Nat × RE) := [(26, law01_num_re), (19, ref01_Size_re)]
theorem law01_three_keyed_Rok (K : Nat) : REnv.Ok prog (tab (law01_three_keyed_R K)) := (REnv.cons (law01_num_ok) (REnv.cons (ref01_Size_ok) (REnv.nil _)))
noncomputable def law01_three_keyed_s0 (K : Nat) (o5 : Addr) (k7 : Sl) (m8 : Option Addr) (e9 : Int) (w : World) : Option ((Bool × Unit) × World) :=
  (law01_num e9).bind fun r_10 =>
  (ldI .i64 (o5.add 3) w.drew).bind fun v_11 =>
  (ref01_Size v_11).bind fun r_12 =>
  if (!((r_10.1 == 0) == (decide (r_12.1 > 0)))) = true then (some ((true, ()), w.drew)) else ((law01_num e9).bind fun r_13 =>
  if (r_13.1 != 0) = true then ((law01_num e9).bind fun r_14 =>
  if (r_14.1 != 10) = true then (some ((true, ()), w.drew)) else ((law01_num e9).bind fun r_15 =>
  if (!(m8.isNone == (r_15.1 != 0))) = true then (some ((true, ()), w.drew)) else ((ldS (o5.add 4) w.drew).bind fun v_16 =>
  bnd (book_WholeBytes K k7 v_16 w.drew) fun r_17 w_18 =>
  some (((!r_17.1), ()), w_18)))) else ((law01_num e9).bind fun r_19 =>
  if (!(m8.isNone == (r_19.1 != 0))) = true then (some ((true, ()), w.drew)) else ((ldS (o5.add 4) w.drew).bind fun v_20 =>
  bnd (book_WholeBytes K k7 v_20 w.drew) fun r_21 w_22 =>
  some (((!r_21.1), ()), w_22))))
/-- (*coffer/cofferlaw01.three).keyed -/
noncomputable def law01_three_keyed (K : Nat) (t0 : Option Addr) (i1 : Int) (o2 : Array Value) (w : World) : Option ((Bool × Unit) × World) :=
  bnd (newB o2 120 w) fun p_1 w_2 =>
  (ldS (p_1.add 4) w_2).bind fun v_3 =>
  if (decide (((v_3.len : Nat) : Int) > 65536)) = true then (some ((true, ()), w_2)) else ((ldS (p_1.add 4) w_2).bind fun v_4 =>
  bnd (book_Bytes K v_4 w_2) fun r_5 w_6 =>
  (ldI .i64 (p_1.add 3) w_6).bind fun v_7 =>
  bnd (digest_NewMac K v_7 r_5.1 w_6) fun r_8 w_9 =>
  bnd (law01_three_keyed_s0 K p_1 r_5.1 r_8.1 r_8.2.1 w_9) fun y_23 w_24 =>
  if y_23.1 = true then (some ((false, ()), w_24)) else (bnd (book_SpoilBytes K r_5.1 w_24) fun r_25 w_26 =>
  (t0).bind fun p_27 =>
  if (0 : Int) ≤ i1 ∧ i1 < ((3 : Nat) : Int) then ((stC ((p_27.add 3).add ((Int.toNat i1) * 1)) (.pointer r_8.1) w_26).bind fun w_28 =>
  (prog.built 114 []).bind fun cs_29 =>
  (t0).bind fun p_30 =>
  if (0 : Int) ≤ i1 ∧ i1 < ((3 : Nat) : Int) then (if (cs_29).size = 4 then ((stA ((p_30.add 6).add ((Int.toNat i1) * 4)) cs_29 w_28).bind fun w_31 =>
  if (!r_8.1.isNone) = true then ((t0).bind fun p_32 =>
  (ldI .i64 (p_1.add 3) w_31.drew).bind fun v_33 =>
  (ldS (p_1.add 4) w_31.drew).bind fun v_34 =>
  (prog.built 114 [(0, (.int .i64 v_33)), (1, (.bool true)), (2, (.slice v_34.a v_34.len v_34.cap))]).bind fun cs_35 =>
  if (0 : Int) ≤ i1 ∧ i1 < ((3 : Nat) : Int) then (if (cs_35).size = 4 then ((stA ((p_32.add 6).add ((Int.toNat i1) * 4)) cs_35 w_31.drew).bind fun w_36 =>
  some ((true, ()), w_36)) else none) else none) else (some ((true, ()), w_31))) else none) else none) else none))
theorem law01_three_keyed_s0_ok (K : Nat) : StmtNOk prog [(5, .addr), (7, .sl), (8, .ptr), (9, .int .i64)] [(56, .bool)] [(24, 57)] (fun x w => law01_three_keyed_s0 K x.1 x.2.1 x.2.2.1 x.2.2.2.1 w) (cd (bodyOf f86) [1, 1, 1, 1, 0, 0]) :=
    mk_stmtN (O := tabL []) (root := (bodyOf f86)) (π := [1, 1, 1, 1, 0, 0]) (Li := [(5, .addr), (7, .sl), (8, .ptr), (9, .int .i64)]) (Lo := [(56, .bool)]) (S := (fun x w => law01_three_keyed_s0 K x.1 x.2.1 x.2.2.1 x.2.2.2.1 w)) (law01_three_keyed_Eok K) (law01_three_keyed_Rok K) rfl (Orc.nil _ _ _) (by kernel_rfl) (fun _ _ => by kernel_rfl)
noncomputable def law01_three_keyed_s0_se (K : Nat) : SE := stmtN [(5, .addr), (7, .sl), (8, .ptr), (9, .int .i64)] [(56, .bool)] [(24, 57)] (fun x w => law01_three_keyed_s0 K x.1 x.2.1 x.2.2.1 x.2.2.2.1 w)
theorem law01_three_keyed_s0_se_ok (K : Nat) (R : Rg) (h : subRB [(24, 57)] R = true) : (law01_three_keyed_s0_se K).Ok prog R (cd (bodyOf f86) [1, 1, 1, 1, 0, 0]) := stmtN_ok (Li := [(5, .addr), (7, .sl), (8, .ptr), (9, .int .i64)]) (Lo := [(56, .bool)]) (S := (fun x w => law01_three_keyed_s0 K x.1 x.2.1 x.2.2.1 x.2.2.2.1 w)) (law01_three_keyed_s0_ok K) (subR_of h)
theorem law01_three_keyed_facts : FunFacts prog 86 f86 (bodyOf f86) [(0, .ptr), (1, .int .i64), (2, .agg)] [(0, 83)] := ⟨func86, by kernel_rfl, by kernel_rfl, by kernel_rfl, by kernel_rfl, by kernel_rfl⟩
theorem law01_three_keyed_calls (K : Nat) (x : TT [(0, .ptr), (1, .int .i64), (2, .agg)]) (w : World) (y : TR [.bool]) (w2 : World) (h : law01_three_keyed K x.1 x.2.1 x.2.2.1 w = some (y, w2)) : Calls prog 86 (encA [(0, .ptr), (1, .int .i64), (2, .agg)] x).toArray w (fun e w3 => e = .returned (resV (encR [.bool] y)) ∧ w3 = w2) :=
    mk_fun (O := tabL [([1, 1, 1, 1, 0, 0], law01_three_keyed_s0_se K)]) (Lp := [(0, .ptr), (1, .int .i64), (2, .agg)]) (Rt := [.bool]) (S := (fun x w => law01_three_keyed K x.1 x.2.1 x.2.2.1 w)) (law01_three_keyed_Eok K) (law01_three_keyed_Rok K) rfl law01_three_keyed_facts (Orc.cons (by kernel_rfl) (law01_three_keyed_s0_se_ok K [(0, 83)] (by kernel_rfl)) (Orc.nil _ _ _)) (fun _ _ => by kernel_rfl) x w y w2 h
noncomputable def law01_three_keyed_ce (K : Nat) : CE := funE [(0, .ptr), (1, .int .i64), (2, .agg)] [.bool] (fun x w => law01_three_keyed K x.1 x.2.1 x.2.2.1 w)
theorem law01_three_keyed_ok (K : Nat) : (law01_three_keyed_ce K).Ok prog 86 := funE_ok (Rt := [.bool]) (S := (fun x w => law01_three_keyed K x.1 x.2.1 x.2.2.1 w)) law01_three_keyed_facts fun x w y w2 h => law01_three_keyed_calls K x w y w2 h

noncomputable def law01_three_begun_E (K : Nat) : List (Nat × CE) := [(40, digest_New_ce K)]
theorem law01_three_begun_Eok (K : Nat) : Env.Ok prog (tab (law01_three_begun_E K)) := (Env.cons (digest_New_ok K) (Env.nil _))
noncomputable def law01_three_begun_R (K : Nat) : List (Nat × RE) := [(26, law01_num_re), (19, ref01_Size_re)]
theorem law01_three_begun_Rok (K : Nat) : REnv.Ok prog (tab (law01_three_begun_R K)) := (REnv.cons (law01_num_ok) (REnv.cons (ref01_Size_ok) (REnv.nil _)))
noncomputable def law01_three_begun_s0 (K : Nat) (o5 : Addr) (s7 : Option Addr) (e8 : Int) (w : World) : Option ((Bool × Unit) × World) :=
  (law01_num e8).bind fun r_6 =>
  (ldI .i64 (o5.add 3) w.drew).bind fun v_7 =>
  (ref01_Size v_7).bind fun r_8 =>
  if (!((r_6.1 == 0) == (decide (r_8.1 > 0)))) = true then (some ((true, ()), w.drew)) else ((law01_num e8).bind fun r_9 =>
  if (r_9.1 != 0) = true then ((law01_num e8).bind fun r_10 =>
  if (r_10.1 != 10) = true then (some ((true, ()), w.drew)) else ((law01_num e8).bind fun r_11 =>
  some (((!(s7.isNone == (r_11.1 != 0))), ()), w.drew))) else ((law01_num e8).bind fun r_12 =>
  some (((!(s7.isNone == (r_12.1 != 0))), ()), w.drew)))
/-- (*coffer/cofferlaw01.three).begun -/
noncomputable def law01_three_begun (K : Nat) (t0 : Option Addr) (i1 : Int) (o2 : Array Value) (w : World) : Option ((Bool × Unit) × World) :=
  bnd (newB o2 120 w) fun p_1 w_2 =>
  (ldI .i64 (p_1.add 3) w_2).bind fun v_3 =>
  bnd (digest_New K v_3 w_2) fun r_4 w_5 =>
  bnd (law01_three_begun_s0 K p_1 r_4.1 r_4.2.1 w_5) fun y_13 w_14 =>
  if y_13.1 = true then (some ((false, ()), w_14)) else ((t0).bind fun p_15 =>
  if (0 : Int) ≤ i1 ∧ i1 < ((3 : Nat) : Int) then ((stC ((p_15.add 0).add ((Int.toNat i1) * 1)) (.pointer r_4.1) w_14).bind fun w_16 =>
  (prog.built 114 []).bind fun cs_17 =>
  (t0).bind fun p_18 =>
  if (0 : Int) ≤ i1 ∧ i1 < ((3 : Nat) : Int) then (if (cs_17).size = 4 then ((stA ((p_18.add 6).add ((Int.toNat i1) * 4)) cs_17 w_16).bind fun w_19 =>
  if (!r_4.1.isNone) = true then ((t0).bind fun p_20 =>
  (ldI .i64 (p_1.add 3) w_19.drew).bind fun v_21 =>
  if (0 : Int) ≤ i1 ∧ i1 < ((3 : Nat) : Int) then ((stC (((p_20.add 6).add ((Int.toNat i1) * 4)).add 0) (.int .i64 v_21) w_19.drew).bind fun w_22 =>
  some ((true, ()), w_22)) else none) else (some ((true, ()), w_19))) else none) else none) else none)
theorem law01_three_begun_s0_ok (K : Nat) : StmtNOk prog [(5, .addr), (7, .ptr), (8, .int .i64)] [(40, .bool)] [(15, 41)] (fun x w => law01_three_begun_s0 K x.1 x.2.1 x.2.2.1 w) (cd (bodyOf f87) [1, 1, 0, 0]) :=
    mk_stmtN (O := tabL []) (root := (bodyOf f87)) (π := [1, 1, 0, 0]) (Li := [(5, .addr), (7, .ptr), (8, .int .i64)]) (Lo := [(40, .bool)]) (S := (fun x w => law01_three_begun_s0 K x.1 x.2.1 x.2.2.1 w)) (law01_three_begun_Eok K) (law01_three_begun_Rok K) rfl (Orc.nil _ _ _) (by kernel_rfl) (fun _ _ => by kernel_rfl)
noncomputable def law01_three_begun_s0_se (K : Nat) : SE := stmtN [(5, .addr), (7, .ptr), (8, .int .i64)] [(40, .bool)] [(15, 41)] (fun x w => law01_three_begun_s0 K x.1 x.2.1 x.2.2.1 w)
theorem law01_three_begun_s0_se_ok (K : Nat) (R : Rg) (h : subRB [(15, 41)] R = true) : (law01_three_begun_s0_se K).Ok prog R (cd (bodyOf f87) [1, 1, 0, 0]) := stmtN_ok (Li := [(5, .addr), (7, .ptr), (8, .int .i64)]) (Lo := [(40, .bool)]) (S := (fun x w => law01_three_begun_s0 K x.1 x.2.1 x.2.2.1 w)) (law01_three_begun_s0_ok K) (subR_of h)
theorem law01_three_begun_facts : FunFacts prog 87 f87 (bodyOf f87) [(0, .ptr), (1, .int .i64), (2, .agg)] [(0, 63)] := ⟨func87, by kernel_rfl, by kernel_rfl, by kernel_rfl, by kernel_rfl, by kernel_rfl⟩
theorem law01_three_begun_calls (K : Nat) (x : TT [(0, .ptr), (1, .int .i64), (2, .agg)]) (w : World) (y : TR [.bool]) (w2 : World) (h : law01_three_begun K x.1 x.2.1 x.2.2.1 w = some (y, w2)) : Calls prog 87 (encA [(0, .ptr), (1, .int .i64), (2, .agg)] x).toArray w (fun e w3 => e = .returned (resV (encR [.bool] y)) ∧ w3 = w2) :=
    mk_fun (O := tabL [([1, 1, 0, 0], law01_three_begun_s0_se K)]) (Lp := [(0, .ptr), (1, .int .i64), (2, .agg)]) (Rt := [.bool]) (S := (fun x w => law01_three_begun K x.1 x.2.1 x.2.2.1 w)) (law01_three_begun_Eok K) (law01_three_begun_Rok K) rfl law01_three_begun_facts (Orc.cons (by kernel_rfl) (law01_three_begun_s0_se_ok K [(0, 63)] (by kernel_rfl)) (Orc.nil _ _ _)) (fun _ _ => by kernel_rfl) x w y w2 h
noncomputable def law01_three_begun_ce (K : Nat) : CE := funE [(0, .ptr), (1, .int .i64), (2, .agg)] [.bool] (fun x w => law01_three_begun K x.1 x.2.1 x.2.2.1 w)
theorem law01_three_begun_ok (K : Nat) : (law01_three_begun_ce K).Ok prog 87 := funE_ok (Rt := [.bool]) (S := (fun x w => law01_three_begun K x.1 x.2.1 x.2.2.1 w)) law01_three_begun_facts fun x w y w2 h => law01_three_begun_calls K x w y w2 h

noncomputable def law01_three_writes_E (K : Nat) : List (Nat × CE) := [(22, law01_joined_ce K), (23, law01_lent_ce K), (43, digest_Mac_Write_ce K), (42, digest_Stream_Write_ce K), (28, law01_whole_ce K), (29, book_SpoilBytes_ce K)]
theorem law01_three_writes_Eok (K : Nat) : Env.Ok prog (tab (law01_three_writes_E K)) := (Env.cons (law01_joined_ok K) (Env.cons (law01_lent_ok K) (Env.cons (digest_Mac_Write_ok K) (Env.cons (digest_Stream_Write_ok K) (Env.cons (law01_whole_ok K) (Env.cons (book_SpoilBytes_ok K) (Env.nil _)))))))
noncomputable def law01_three_writes_R (K : Nat) : List (Nat × RE) := [(26, law01_num_re)]
theorem law01_three_writes_Rok (K : Nat) : REnv.Ok prog (tab (law01_three_writes_R K)) := (REnv.cons (law01_num_ok) (REnv.nil _))
noncomputable def law01_three_writes_s0 (K : Nat) (t0 : Option Addr) (i1 : Int) (l10 : Sl) (e11 : Int) (a37 : Bool) (w : World) : Option ((Int × Unit) × World) :=
  if a37 = true then ((t0).bind fun p_15 =>
  if (0 : Int) ≤ i1 ∧ i1 < ((3 : Nat) : Int) then ((ldP ((p_15.add 3).add ((Int.toNat i1) * 1)) w).bind fun v_16 =>
  bnd (digest_Mac_Write K v_16 l10 w) fun r_17 w_18 =>
  (law01_num r_17.1).bind fun r_19 =>
  some ((r_19.1, ()), w_18)) else none) else ((t0).bind fun p_20 =>
  if (0 : Int) ≤ i1 ∧ i1 < ((3 : Nat) : Int) then ((ldP ((p_20.add 0).add ((Int.toNat i1) * 1)) w).bind fun v_21 =>
  bnd (digest_Stream_Write K v_21 l10 w) fun r_22 w_23 =>
  (law01_num r_22.1).bind fun r_24 =>
  some ((r_24.1, ()), w_23)) else none)
noncomputable def law01_three_writes_l1_b (K : Nat) (rec : Option Addr → Int → Sl → Sl → Int → Int → World → Option ((Unit) × World)) (t0 : Option Addr) (i1 : Int) (all9 : Sl) (l10 : Sl) (e11 : Int) (k12 : Int) (w : World) : Option ((Unit) × World) :=
  if (decide (k12 < ((l10.len : Nat) : Int))) = true then ((l10.a).bind fun p_30 =>
  if (0 : Int) ≤ k12 ∧ k12 < ((l10.len : Nat) : Int) then ((ldS (p_30.add ((Int.toNat k12) * 1)) w).bind fun v_31 =>
  bnd (book_SpoilBytes K v_31 w) fun r_32 w_33 =>
  rec t0 i1 all9 l10 e11 (IntKind.i64.wrap (k12 + 1)) w_33) else none) else (some ((), w))
noncomputable def law01_three_writes_l1 (K : Nat) (n : Nat) : Option Addr → Int → Sl → Sl → Int → Int → World → Option ((Unit) × World) := iter (fun _ _ _ _ _ _ _ => none) (law01_three_writes_l1_b K) n
/-- (*coffer/cofferlaw01.three).writes -/
noncomputable def law01_three_writes (K : Nat) (t0 : Option Addr) (i1 : Int) (o2 : Array Value) (macs3 : Bool) (w : World) : Option ((Bool × Unit) × World) :=
  bnd (newB o2 120 w) fun p_1 w_2 =>
  (ldS (p_1.add 5) w_2).bind fun v_3 =>
  bnd (law01_joined K v_3 w_2) fun r_4 w_5 =>
  (t0).bind fun p_6 =>
  (ldI .i64 (p_6.add 20) w_5).bind fun v_7 =>
  if (decide (((r_4.1.len : Nat) : Int) > v_7)) = true then (some ((true, ()), w_5)) else ((t0).bind fun p_8 =>
  (ldI .i64 (p_8.add 20) w_5).bind fun v_9 =>
  (t0).bind fun p_10 =>
  (stC (p_10.add 20) (.int .i64 (IntKind.i64.wrap (v_9 - ((r_4.1.len : Nat) : Int)))) w_5).bind fun w_11 =>
  (ldS (p_1.add 5) w_11).bind fun v_12 =>
  bnd (law01_lent K v_12 w_11) fun r_13 w_14 =>
  bnd (law01_three_writes_s0 K t0 i1 r_13.1 0 macs3 w_14) fun y_25 w_26 =>
  (ldS (p_1.add 5) w_26).bind fun v_27 =>
  bnd (law01_whole K r_13.1 v_27 w_26) fun r_28 w_29 =>
  if (!r_28.1) = true then (some ((false, ()), w_29)) else (bnd (law01_three_writes_l1 K K t0 i1 r_4.1 r_13.1 y_25.1 0 w_29) fun y_34 w_35 =>
  (t0).bind fun p_36 =>
  if (0 : Int) ≤ i1 ∧ i1 < ((3 : Nat) : Int) then ((ldI .i64 (((p_36.add 6).add ((Int.toNat i1) * 4)).add 0) w_35).bind fun v_37 =>
  if (v_37 == 0) = true then (some (((y_25.1 == 1), ()), w_35)) else ((t0).bind fun p_38 =>
  if (0 : Int) ≤ i1 ∧ i1 < ((3 : Nat) : Int) then ((ldS (((p_38.add 6).add ((Int.toNat i1) * 4)).add 3) w_35).bind fun v_39 =>
  bnd (apd prog 25 25 (.slice none 0 0) (.slice v_39.a v_39.len v_39.cap) w_35) fun s_40 w_41 =>
  (t0).bind fun p_42 =>
  bnd (apd prog 25 25 (.slice s_40.a s_40.len s_40.cap) (.slice r_4.1.a r_4.1.len r_4.1.cap) w_41.drew) fun s_43 w_44 =>
  if (0 : Int) ≤ i1 ∧ i1 < ((3 : Nat) : Int) then ((stC (((p_42.add 6).add ((Int.toNat i1) * 4)).add 3) (.slice s_43.a s_43.len s_43.cap) w_44).bind fun w_45 =>
  some (((y_25.1 == 0), ()), w_45)) else none) else none)) else none))
theorem law01_three_writes_s0_ok (K : Nat) : StmtNOk prog [(0, .ptr), (1, .int .i64), (10, .sl), (11, .int .i64), (37, .bool)] [(11, .int .i64)] [(11, 12), (38, 56)] (fun x w => law01_three_writes_s0 K x.1 x.2.1 x.2.2.1 x.2.2.2.1 x.2.2.2.2.1 w) (cd (bodyOf f88) [1, 1, 1, 1, 1, 1, 0, 1]) :=
    mk_stmtN (O := tabL []) (root := (bodyOf f88)) (π := [1, 1, 1, 1, 1, 1, 0, 1]) (Li := [(0, .ptr), (1, .int .i64), (10, .sl), (11, .int .i64), (37, .bool)]) (Lo := [(11, .int .i64)]) (S := (fun x w => law01_three_writes_s0 K x.1 x.2.1 x.2.2.1 x.2.2.2.1 x.2.2.2.2.1 w)) (law01_three_writes_Eok K) (law01_three_writes_Rok K) rfl (Orc.nil _ _ _) (by kernel_rfl) (fun _ _ => by kernel_rfl)
noncomputable def law01_three_writes_s0_se (K : Nat) : SE := stmtN [(0, .ptr), (1, .int .i64), (10, .sl), (11, .int .i64), (37, .bool)] [(11, .int .i64)] [(11, 12), (38, 56)] (fun x w => law01_three_writes_s0 K x.1 x.2.1 x.2.2.1 x.2.2.2.1 x.2.2.2.2.1 w)
theorem law01_three_writes_s0_se_ok (K : Nat) (R : Rg) (h : subRB [(11, 12), (38, 56)] R = true) : (law01_three_writes_s0_se K).Ok prog R (cd (bodyOf f88) [1, 1, 1, 1, 1, 1, 0, 1]) := stmtN_ok (Li := [(0, .ptr), (1, .int .i64), (10, .sl), (11, .int .i64), (37, .bool)]) (Lo := [(11, .int .i64)]) (S := (fun x w => law01_three_writes_s0 K x.1 x.2.1 x.2.2.1 x.2.2.2.1 x.2.2.2.2.1 w)) (law01_three_writes_s0_ok K) (subR_of h)
theorem law01_three_writes_l1_ok (K : Nat) (n : Nat) : StmtNOk prog [(0, .ptr), (1, .int .i64), (9, .sl), (10, .sl), (11, .int .i64), (12, .int .i64)] [] [(12, 13), (61, 72)] ((fun n x w => law01_three_writes_l1 K n x.1 x.2.1 x.2.2.1 x.2.2.2.1 x.2.2.2.2.1 x.2.2.2.2.2.1 w) n) (.block 0 (.loop (cd (bodyOf f88) [1, 1, 1, 1, 1, 1, 1, 1, 0, 1, 0, 0]))) :=
    mk_loopN (O := tabL []) (root := (bodyOf f88)) (π := [1, 1, 1, 1, 1, 1, 1, 1, 0, 1, 0, 0]) (id := 0) (Li := [(0, .ptr), (1, .int .i64), (9, .sl), (10, .sl), (11, .int .i64), (12, .int .i64)]) (Lo := []) (S := (fun n x w => law01_three_writes_l1 K n x.1 x.2.1 x.2.2.1 x.2.2.2.1 x.2.2.2.2.1 x.2.2.2.2.2.1 w)) (body := cd (bodyOf f88) [1, 1, 1, 1, 1, 1, 1, 1, 0, 1, 0, 0]) (law01_three_writes_Eok K) (law01_three_writes_Rok K) rfl (Orc.nil _ _ _) (by kernel_rfl) (fun _ _ => by kernel_rfl) (fun _ _ _ => by kernel_rfl) n
noncomputable def law01_three_writes_l1_se (K : Nat) : SE := stmtN [(0, .ptr), (1, .int .i64), (9, .sl), (10, .sl), (11, .int .i64), (12, .int .i64)] [] [(12, 13), (61, 72)] (fun x w => law01_three_writes_l1 K K x.1 x.2.1 x.2.2.1 x.2.2.2.1 x.2.2.2.2.1 x.2.2.2.2.2.1 w)
theorem law01_three_writes_l1_se_ok (K : Nat) (R : Rg) (h : subRB [(12, 13), (61, 72)] R = true) : (law01_three_writes_l1_se K).Ok prog R (.block 0 (.loop (cd (bodyOf f88) [1, 1, 1, 1, 1, 1, 1, 1, 0, 1, 0, 0]))) := stmtN_ok (Li := [(0, .ptr), (1, .int .i64), (9, .sl), (10, .sl), (11, .int .i64), (12, .int .i64)]) (Lo := []) (S := (fun x w => law01_three_writes_l1 K K x.1 x.2.1 x.2.2.1 x.2.2.2.1 x.2.2.2.2.1 x.2.2.2.2.2.1 w)) (law01_three_writes_l1_ok K K) (subR_of h)
theorem law01_three_writes_facts : FunFacts prog 88 f88 (bodyOf f88) [(0, .ptr), (1, .int .i64), (2, .agg), (3, .bool)] [(0, 102)] := ⟨func88, by kernel_rfl, by kernel_rfl, by kernel_rfl, by kernel_rfl, by kernel_rfl⟩
theorem law01_three_writes_calls (K : Nat) (x : TT [(0, .ptr), (1, .int .i64), (2, .agg), (3, .bool)]) (w : World) (y : TR [.bool]) (w2 : World) (h : law01_three_writes K x.1 x.2.1 x.2.2.1 x.2.2.2.1 w = some (y, w2)) : Calls prog 88 (encA [(0, .ptr), (1, .int .i64), (2, .agg), (3, .bool)] x).toArray w (fun e w3 => e = .returned (resV (encR [.bool] y)) ∧ w3 = w2) :=
    mk_fun (O := tabL [([1, 1, 1, 1, 1, 1, 0, 1], law01_three_writes_s0_se K), ([1, 1, 1, 1, 1, 1, 1, 1, 0, 1], law01_three_writes_l1_se K)]) (Lp := [(0, .ptr), (1, .int .i64), (2, .agg), (3, .bool)]) (Rt := [.bool]) (S := (fun x w => law01_three_writes K x.1 x.2.1 x.2.2.1 x.2.2.2.1 w)) (law01_three_writes_Eok K) (law01_three_writes_Rok K) rfl law01_three_writes_facts (Orc.cons (by kernel_rfl) (law01_three_writes_s0_se_ok K [(0, 102)] (by kernel_rfl)) (Orc.cons (by kernel_rfl) (law01_three_writes_l1_se_ok K [(0, 102)] (by kernel_rfl)) (Orc.nil _ _ _))) (fun _ _ => by kernel_rfl) x w y w2 h
noncomputable def law01_three_writes_ce (K : Nat) : CE := funE [(0, .ptr), (1, .int .i64), (2, .agg), (3, .bool)] [.bool] (fun x w => law01_three_writes K x.1 x.2.1 x.2.2.1 x.2.2.2.1 w)
theorem law01_three_writes_ok (K : Nat) : (law01_three_writes_ce K).Ok prog 88 := funE_ok (Rt := [.bool]) (S := (fun x w => law01_three_writes K x.1 x.2.1 x.2.2.1 x.2.2.2.1 w)) law01_three_writes_facts fun x w y w2 h => law01_three_writes_calls K x w y w2 h

noncomputable def law01_Fed_sum_E (K : Nat) : List (Nat × CE) := [(32, ref01_Code_ce K), (25, ref01_Sum_ce K)]
theorem law01_Fed_sum_Eok (K : Nat) : Env.Ok prog (tab (law01_Fed_sum_E K)) := (Env.cons (ref01_Code_ok K) (Env.cons (ref01_Sum_ok K) (Env.nil _)))
noncomputable def law01_Fed_sum_R (K : Nat) : List (Nat × RE) := []
theorem law01_Fed_sum_Rok (K : Nat) : REnv.Ok prog (tab (law01_Fed_sum_R K)) := (REnv.nil _)
/-- (coffer/cofferlaw01.Fed).sum -/
noncomputable def law01_Fed_sum (K : Nat) (f0 : Array Value) (w : World) : Option ((Sl × Unit) × World) :=
  bnd (newB f0 114 w) fun p_1 w_2 =>
  (ldB (p_1.add 1) w_2).bind fun v_3 =>
  if v_3 = true then ((ldI .i64 (p_1.add 0) w_2).bind fun v_4 =>
  (ldS (p_1.add 2) w_2).bind fun v_5 =>
  (ldS (p_1.add 3) w_2).bind fun v_6 =>
  bnd (ref01_Code K v_4 v_5 v_6 w_2) fun r_7 w_8 =>
  some ((r_7.1, ()), w_8)) else ((ldI .i64 (p_1.add 0) w_2).bind fun v_9 =>
  (ldS (p_1.add 3) w_2).bind fun v_10 =>
  bnd (ref01_Sum K v_9 v_10 w_2) fun r_11 w_12 =>
  some ((r_11.1, ()), w_12))
theorem law01_Fed_sum_facts : FunFacts prog 95 f95 (bodyOf f95) [(0, .agg)] [(0, 17)] := ⟨func95, by kernel_rfl, by kernel_rfl, by kernel_rfl, by kernel_rfl, by kernel_rfl⟩
theorem law01_Fed_sum_calls (K : Nat) (x : TT [(0, .agg)]) (w : World) (y : TR [.sl]) (w2 : World) (h : law01_Fed_sum K x.1 w = some (y, w2)) : Calls prog 95 (encA [(0, .agg)] x).toArray w (fun e w3 => e = .returned (resV (encR [.sl] y)) ∧ w3 = w2) :=
    mk_fun (O := tabL []) (Lp := [(0, .agg)]) (Rt := [.sl]) (S := (fun x w => law01_Fed_sum K x.1 w)) (law01_Fed_sum_Eok K) (law01_Fed_sum_Rok K) rfl law01_Fed_sum_facts (Orc.nil _ _ _) (fun _ _ => by kernel_rfl) x w y w2 h
noncomputable def law01_Fed_sum_ce (K : Nat) : CE := funE [(0, .agg)] [.sl] (fun x w => law01_Fed_sum K x.1 w)
theorem law01_Fed_sum_ok (K : Nat) : (law01_Fed_sum_ce K).Ok prog 95 := funE_ok (Rt := [.sl]) (S := (fun x w => law01_Fed_sum K x.1 w)) law01_Fed_sum_facts fun x w y w2 h => law01_Fed_sum_calls K x w y w2 h

noncomputable def law01_three_told_E (K : Nat) : List (Nat × CE) := [(95, law01_Fed_sum_ce K), (27, book_SameBytes_ce K), (29, book_SpoilBytes_ce K)]
theorem law01_three_told_Eok (K : Nat) : Env.Ok prog (tab (law01_three_told_E K)) := (Env.cons (law01_Fed_sum_ok K) (Env.cons (book_SameBytes_ok K) (Env.cons (book_SpoilBytes_ok K) (Env.nil _))))
noncomputable def law01_three_told_R (K : Nat) : List (Nat × RE) := []
theorem law01_three_told_Rok (K : Nat) : REnv.Ok prog (tab (law01_three_told_R K)) := (REnv.nil _)
noncomputable def law01_three_told_s0 (K : Nat) (t0 : Option Addr) (i1 : Int) (w9 : Sl) (a17 : Bool) (w : World) : Option ((Sl × Unit) × World) :=
  if a17 = true then ((t0).bind fun p_3 =>
  if (0 : Int) ≤ i1 ∧ i1 < ((3 : Nat) : Int) then ((ldA 4 ((p_3.add 6).add ((Int.toNat i1) * 4)) w).bind fun v_4 =>
  bnd (law01_Fed_sum K v_4 w) fun r_5 w_6 =>
  some ((r_5.1, ()), w_6)) else none) else (some ((w9, ()), w))
/-- (*coffer/cofferlaw01.three).told -/
noncomputable def law01_three_told (K : Nat) (t0 : Option Addr) (i1 : Int) (a2 : Sl) (spoil3 : Bool) (w : World) : Option ((Bool × Unit) × World) :=
  (t0).bind fun p_1 =>
  if (0 : Int) ≤ i1 ∧ i1 < ((3 : Nat) : Int) then ((ldI .i64 (((p_1.add 6).add ((Int.toNat i1) * 4)).add 0) w).bind fun v_2 =>
  bnd (law01_three_told_s0 K t0 i1 ⟨none, 0, 0⟩ (v_2 != 0) w) fun y_7 w_8 =>
  bnd (book_SameBytes K a2 y_7.1 w_8) fun r_9 w_10 =>
  if (!r_9.1) = true then (some ((false, ()), w_10)) else (if spoil3 = true then (bnd (book_SpoilBytes K a2 w_10) fun r_11 w_12 =>
  some ((true, ()), w_12)) else ((t0).bind fun p_13 =>
  (ldS (p_13.add 18) w_10).bind fun v_14 =>
  bnd (bldS prog 24 1 #[(0, (.slice a2.a a2.len a2.cap))] w_10) fun s_15 w_16 =>
  bnd (apd prog 24 24 (.slice v_14.a v_14.len v_14.cap) (.slice s_15.a s_15.len s_15.cap) w_16) fun s_17 w_18 =>
  (t0).bind fun p_19 =>
  (stC (p_19.add 18) (.slice s_17.a s_17.len s_17.cap) w_18).bind fun w_20 =>
  (t0).bind fun p_21 =>
  (ldS (p_21.add 19) w_20).bind fun v_22 =>
  bnd (bldS prog 24 1 #[(0, (.slice y_7.1.a y_7.1.len y_7.1.cap))] w_20) fun s_23 w_24 =>
  bnd (apd prog 24 24 (.slice v_22.a v_22.len v_22.cap) (.slice s_23.a s_23.len s_23.cap) w_24) fun s_25 w_26 =>
  (t0).bind fun p_27 =>
  (stC (p_27.add 19) (.slice s_25.a s_25.len s_25.cap) w_26).bind fun w_28 =>
  some ((true, ()), w_28)))) else none
theorem law01_three_told_s0_ok (K : Nat) : StmtNOk prog [(0, .ptr), (1, .int .i64), (9, .sl), (17, .bool)] [(9, .sl)] [(9, 10), (18, 25)] (fun x w => law01_three_told_s0 K x.1 x.2.1 x.2.2.1 x.2.2.2.1 w) (cd (bodyOf f89) [1, 1, 0, 1]) :=
    mk_stmtN (O := tabL []) (root := (bodyOf f89)) (π := [1, 1, 0, 1]) (Li := [(0, .ptr), (1, .int .i64), (9, .sl), (17, .bool)]) (Lo := [(9, .sl)]) (S := (fun x w => law01_three_told_s0 K x.1 x.2.1 x.2.2.1 x.2.2.2.1 w)) (law01_three_told_Eok K) (law01_three_told_Rok K) rfl (Orc.nil _ _ _) (by kernel_rfl) (fun _ _ => by kernel_rfl)
noncomputable def law01_three_told_s0_se (K : Nat) : SE := stmtN [(0, .ptr), (1, .int .i64), (9, .sl), (17, .bool)] [(9, .sl)] [(9, 10), (18, 25)] (fun x w => law01_three_told_s0 K x.1 x.2.1 x.2.2.1 x.2.2.2.1 w)
theorem law01_three_told_s0_se_ok (K : Nat) (R : Rg) (h : subRB [(9, 10), (18, 25)] R = true) : (law01_three_told_s0_se K).Ok prog R (cd (bodyOf f89) [1, 1, 0, 1]) := stmtN_ok (Li := [(0, .ptr), (1, .int .i64), (9, .sl), (17, .bool)]) (Lo := [(9, .sl)]) (S := (fun x w => law01_three_told_s0 K x.1 x.2.1 x.2.2.1 x.2.2.2.1 w)) (law01_three_told_s0_ok K) (subR_of h)
theorem law01_three_told_facts : FunFacts prog 89 f89 (bodyOf f89) [(0, .ptr), (1, .int .i64), (2, .sl), (3, .bool)] [(0, 52)] := ⟨func89, by kernel_rfl, by kernel_rfl, by kernel_rfl, by kernel_rfl, by kernel_rfl⟩
theorem law01_three_told_calls (K : Nat) (x : TT [(0, .ptr), (1, .int .i64), (2, .sl), (3, .bool)]) (w : World) (y : TR [.bool]) (w2 : World) (h : law01_three_told K x.1 x.2.1 x.2.2.1 x.2.2.2.1 w = some (y, w2)) : Calls prog 89 (encA [(0, .ptr), (1, .int .i64), (2, .sl), (3, .bool)] x).toArray w (fun e w3 => e = .returned (resV (encR [.bool] y)) ∧ w3 = w2) :=
    mk_fun (O := tabL [([1, 1, 0, 1], law01_three_told_s0_se K)]) (Lp := [(0, .ptr), (1, .int .i64), (2, .sl), (3, .bool)]) (Rt := [.bool]) (S := (fun x w => law01_three_told K x.1 x.2.1 x.2.2.1 x.2.2.2.1 w)) (law01_three_told_Eok K) (law01_three_told_Rok K) rfl law01_three_told_facts (Orc.cons (by kernel_rfl) (law01_three_told_s0_se_ok K [(0, 52)] (by kernel_rfl)) (Orc.nil _ _ _)) (fun _ _ => by kernel_rfl) x w y w2 h
noncomputable def law01_three_told_ce (K : Nat) : CE := funE [(0, .ptr), (1, .int .i64), (2, .sl), (3, .bool)] [.bool] (fun x w => law01_three_told K x.1 x.2.1 x.2.2.1 x.2.2.2.1 w)
theorem law01_three_told_ok (K : Nat) : (law01_three_told_ce K).Ok prog 89 := funE_ok (Rt := [.bool]) (S := (fun x w => law01_three_told K x.1 x.2.1 x.2.2.1 x.2.2.2.1 w)) law01_three_told_facts fun x w y w2 h => law01_three_told_calls K x w y w2 h

noncomputable def law01_three_reset_E (K : Nat) : List (Nat × CE) := [(50, digest_Mac_Reset_ce), (47, digest_Stream_Reset_ce K)]
theorem law01_three_reset_Eok (K : Nat) : Env.Ok prog (tab (law01_three_reset_E K)) := (Env.cons (digest_Mac_Reset_ok) (Env.cons (digest_Stream_Reset_ok K) (Env.nil _)))
noncomputable def law01_three_reset_R (K : Nat) : List (Nat × RE) := [(26, law01_num_re)]
theorem law01_three_reset_Rok (K : Nat) : REnv.Ok prog (tab (law01_three_reset_R K)) := (REnv.cons (law01_num_ok) (REnv.nil _))
noncomputable def law01_three_reset_s0 (K : Nat) (t0 : Option Addr) (i1 : Int) (e7 : Int) (a8 : Bool) (w : World) : Option ((Int × Unit) × World) :=
  if a8 = true then ((t0).bind fun p_1 =>
  if (0 : Int) ≤ i1 ∧ i1 < ((3 : Nat) : Int) then ((ldP ((p_1.add 3).add ((Int.toNat i1) * 1)) w).bind fun v_2 =>
  bnd (digest_Mac_Reset v_2 w) fun r_3 w_4 =>
  (law01_num r_3.1).bind fun r_5 =>
  some ((r_5.1, ()), w_4)) else none) else ((t0).bind fun p_6 =>
  if (0 : Int) ≤ i1 ∧ i1 < ((3 : Nat) : Int) then ((ldP ((p_6.add 0).add ((Int.toNat i1) * 1)) w).bind fun v_7 =>
  bnd (digest_Stream_Reset K v_7 w) fun r_8 w_9 =>
  (law01_num r_8.1).bind fun r_10 =>
  some ((r_10.1, ()), w_9)) else none)
/-- (*coffer/cofferlaw01.three).reset -/
noncomputable def law01_three_reset (K : Nat) (t0 : Option Addr) (i1 : Int) (macs2 : Bool) (w : World) : Option ((Bool × Unit) × World) :=
  bnd (law01_three_reset_s0 K t0 i1 0 macs2 w) fun y_11 w_12 =>
  (t0).bind fun p_13 =>
  if (0 : Int) ≤ i1 ∧ i1 < ((3 : Nat) : Int) then ((ldI .i64 (((p_13.add 6).add ((Int.toNat i1) * 4)).add 0) w_12).bind fun v_14 =>
  if (v_14 == 0) = true then (some (((y_11.1 == 1), ()), w_12)) else ((t0).bind fun p_15 =>
  if (0 : Int) ≤ i1 ∧ i1 < ((3 : Nat) : Int) then ((stC (((p_15.add 6).add ((Int.toNat i1) * 4)).add 3) (.slice none 0 0) w_12).bind fun w_16 =>
  some (((y_11.1 == 0), ()), w_16)) else none)) else none
theorem law01_three_reset_s0_ok (K : Nat) : StmtNOk prog [(0, .ptr), (1, .int .i64), (7, .int .i64), (8, .bool)] [(7, .int .i64)] [(7, 8), (9, 25)] (fun x w => law01_three_reset_s0 K x.1 x.2.1 x.2.2.1 x.2.2.2.1 w) (cd (bodyOf f90) [1, 1, 0, 1]) :=
    mk_stmtN (O := tabL []) (root := (bodyOf f90)) (π := [1, 1, 0, 1]) (Li := [(0, .ptr), (1, .int .i64), (7, .int .i64), (8, .bool)]) (Lo := [(7, .int .i64)]) (S := (fun x w => law01_three_reset_s0 K x.1 x.2.1 x.2.2.1 x.2.2.2.1 w)) (law01_three_reset_Eok K) (law01_three_reset_Rok K) rfl (Orc.nil _ _ _) (by kernel_rfl) (fun _ _ => by kernel_rfl)
noncomputable def law01_three_reset_s0_se (K : Nat) : SE := stmtN [(0, .ptr), (1, .int .i64), (7, .int .i64), (8, .bool)] [(7, .int .i64)] [(7, 8), (9, 25)] (fun x w => law01_three_reset_s0 K x.1 x.2.1 x.2.2.1 x.2.2.2.1 w)
theorem law01_three_reset_s0_se_ok (K : Nat) (R : Rg) (h : subRB [(7, 8), (9, 25)] R = true) : (law01_three_reset_s0_se K).Ok prog R (cd (bodyOf f90) [1, 1, 0, 1]) := stmtN_ok (Li := [(0, .ptr), (1, .int .i64), (7, .int .i64), (8, .bool)]) (Lo := [(7, .int .i64)]) (S := (fun x w => law01_three_reset_s0 K x.1 x.2.1 x.2.2.1 x.2.2.2.1 w)) (law01_three_reset_s0_ok K) (subR_of h)
theorem law01_three_reset_facts : FunFacts prog 90 f90 (bodyOf f90) [(0, .ptr), (1, .int .i64), (2, .bool)] [(0, 43)] := ⟨func90, by kernel_rfl, by kernel_rfl, by kernel_rfl, by kernel_rfl, by kernel_rfl⟩
theorem law01_three_reset_calls (K : Nat) (x : TT [(0, .ptr), (1, .int .i64), (2, .bool)]) (w : World) (y : TR [.bool]) (w2 : World) (h : law01_three_reset K x.1 x.2.1 x.2.2.1 w = some (y, w2)) : Calls prog 90 (encA [(0, .ptr), (1, .int .i64), (2, .bool)] x).toArray w (fun e w3 => e = .returned (resV (encR [.bool] y)) ∧ w3 = w2) :=
    mk_fun (O := tabL [([1, 1, 0, 1], law01_three_reset_s0_se K)]) (Lp := [(0, .ptr), (1, .int .i64), (2, .bool)]) (Rt := [.bool]) (S := (fun x w => law01_three_reset K x.1 x.2.1 x.2.2.1 w)) (law01_three_reset_Eok K) (law01_three_reset_Rok K) rfl law01_three_reset_facts (Orc.cons (by kernel_rfl) (law01_three_reset_s0_se_ok K [(0, 43)] (by kernel_rfl)) (Orc.nil _ _ _)) (fun _ _ => by kernel_rfl) x w y w2 h
noncomputable def law01_three_reset_ce (K : Nat) : CE := funE [(0, .ptr), (1, .int .i64), (2, .bool)] [.bool] (fun x w => law01_three_reset K x.1 x.2.1 x.2.2.1 w)
theorem law01_three_reset_ok (K : Nat) : (law01_three_reset_ce K).Ok prog 90 := funE_ok (Rt := [.bool]) (S := (fun x w => law01_three_reset K x.1 x.2.1 x.2.2.1 w)) law01_three_reset_facts fun x w y w2 h => law01_three_reset_calls K x w y w2 h

noncomputable def law01_three_asks_E : List (Nat × CE) := []
theorem law01_three_asks_Eok : Env.Ok prog (tab (law01_three_asks_E)) := (Env.nil _)
noncomputable def law01_three_asks_R : List (Nat × RE) := [(54, digest_Stream_Hash_re), (55, digest_Stream_Size_re), (19, ref01_Size_re), (56, digest_Stream_Block_re), (21, ref01_Block_re), (46, digest_Stream_Count_re)]
theorem law01_three_asks_Rok : REnv.Ok prog (tab (law01_three_asks_R)) := (REnv.cons (digest_Stream_Hash_ok) (REnv.cons (digest_Stream_Size_ok) (REnv.cons (ref01_Size_ok) (REnv.cons (digest_Stream_Block_ok) (REnv.cons (ref01_Block_ok) (REnv.cons (digest_Stream_Count_ok) (REnv.nil _)))))))
/-- (*coffer/cofferlaw01.three).asks -/
noncomputable def law01_three_asks (t0 : Option Addr) (i1 : Int) (w : World) : Option ((Bool × Unit) × World) :=
  (t0).bind fun p_1 =>
  if (0 : Int) ≤ i1 ∧ i1 < ((3 : Nat) : Int) then ((ldP ((p_1.add 0).add ((Int.toNat i1) * 1)) w).bind fun v_2 =>
  (t0).bind fun p_3 =>
  if (0 : Int) ≤ i1 ∧ i1 < ((3 : Nat) : Int) then ((ldA 4 ((p_3.add 6).add ((Int.toNat i1) * 4)) w).bind fun v_4 =>
  bnd (newB z114 114 w) fun f_5 w_6 =>
  if (v_4).size = 4 then ((stA f_5 v_4 w_6).bind fun w_7 =>
  (digest_Stream_Hash v_2 w_7.drew).bind fun r_8 =>
  (ldI .i64 (f_5.add 0) w_7.drew).bind fun v_9 =>
  if (r_8.1 == v_9) = true then ((digest_Stream_Size v_2 w_7.drew).bind fun r_10 =>
  (ldI .i64 (f_5.add 0) w_7.drew).bind fun v_11 =>
  (ref01_Size v_11).bind fun r_12 =>
  if (r_10.1 == r_12.1) = true then ((digest_Stream_Block v_2 w_7.drew).bind fun r_13 =>
  (ldI .i64 (f_5.add 0) w_7.drew).bind fun v_14 =>
  (ref01_Block v_14).bind fun r_15 =>
  if (r_13.1 == r_15.1) = true then ((digest_Stream_Count v_2 w_7.drew).bind fun r_16 =>
  (ldS (f_5.add 3) w_7.drew).bind fun v_17 =>
  some (((r_16.1 == (IntKind.u64.wrap ((v_17.len : Nat) : Int))), ()), w_7.drew)) else (some ((false, ()), w_7.drew))) else (some ((false, ()), w_7.drew))) else (some ((false, ()), w_7.drew))) else none) else none) else none
theorem law01_three_asks_facts : FunFacts prog 91 f91 (bodyOf f91) [(0, .ptr), (1, .int .i64)] [(0, 49)] := ⟨func91, by kernel_rfl, by kernel_rfl, by kernel_rfl, by kernel_rfl, by kernel_rfl⟩
theorem law01_three_asks_calls (x : TT [(0, .ptr), (1, .int .i64)]) (w : World) (y : TR [.bool]) (w2 : World) (h : law01_three_asks x.1 x.2.1 w = some (y, w2)) : Calls prog 91 (encA [(0, .ptr), (1, .int .i64)] x).toArray w (fun e w3 => e = .returned (resV (encR [.bool] y)) ∧ w3 = w2) :=
    mk_fun (O := tabL []) (Lp := [(0, .ptr), (1, .int .i64)]) (Rt := [.bool]) (S := (fun x w => law01_three_asks x.1 x.2.1 w)) (law01_three_asks_Eok) (law01_three_asks_Rok) rfl law01_three_asks_facts (Orc.nil _ _ _) (fun _ _ => by kernel_rfl) x w y w2 h
noncomputable def law01_three_asks_ce : CE := funE [(0, .ptr), (1, .int .i64)] [.bool] (fun x w => law01_three_asks x.1 x.2.1 w)
theorem law01_three_asks_ok : (law01_three_asks_ce).Ok prog 91 := funE_ok (Rt := [.bool]) (S := (fun x w => law01_three_asks x.1 x.2.1 w)) law01_three_asks_facts fun x w y w2 h => law01_three_asks_calls x w y w2 h

end Go.Sh

/- What functions of the program do, as Lean functions; that the machine does just that. Printed by shal.py, a program of this claim's writer. -/
set_option maxRecDepth 100000
set_option linter.unusedVariables false
namespace Go.Sh
open Go.Fw Go.Proofs.Tryd

noncomputable def law01_three_plays_E (K : Nat) : List (Nat × CE) := [(86, law01_three_keyed_ce K), (87, law01_three_begun_ce K), (88, law01_three_writes_ce K), (45, digest_Mac_Sum_ce K), (89, law01_three_told_ce K), (44, digest_Stream_Sum_ce K), (90, law01_three_reset_ce K), (52, digest_Mac_Copy_ce), (51, digest_Stream_Copy_ce), (91, law01_three_asks_ce)]
theorem law01_three_plays_Eok (K : Nat) : Env.Ok prog (tab (law01_three_plays_E K)) := (Env.cons (law01_three_keyed_ok K) (Env.cons (law01_three_begun_ok K) (Env.cons (law01_three_writes_ok K) (Env.cons (digest_Mac_Sum_ok K) (Env.cons (law01_three_told_ok K) (Env.cons (digest_Stream_Sum_ok K) (Env.cons (law01_three_reset_ok K) (Env.cons (digest_Mac_Copy_ok) (Env.cons (digest_Stream_Copy_ok) (Env.cons (law01_three_asks_ok) (Env.nil _)))))))))))
noncomputable def law01_three_plays_R (K : Nat) : List (Nat × RE) := [(85, law01_place_re), (57, digest_Mac_Size_re), (19, ref01_Size_re)]
theorem law01_three_plays_Rok (K : Nat) : REnv.Ok prog (tab (law01_three_plays_R K)) := (REnv.cons (law01_place_ok) (REnv.cons (digest_Mac_Size_ok) (REnv.cons (ref01_Size_ok) (REnv.nil _))))
noncomputable def law01_three_plays_s0 (K : Nat) (t0 : Option Addr) (a6 : Bool) (i7 : Int) (w : World) : Option ((Bool × Unit) × World) :=
  (t0).bind fun p_17 =>
  if (0 : Int) ≤ i7 ∧ i7 < ((3 : Nat) : Int) then ((ldP ((p_17.add 3).add ((Int.toNat i7) * 1)) w).bind fun v_18 =>
  bnd (digest_Mac_Sum K v_18 w) fun r_19 w_20 =>
  bnd (law01_three_told K t0 i7 r_19.1 false w_20) fun r_21 w_22 =>
  if r_21.1 = true then ((t0).bind fun p_23 =>
  if (0 : Int) ≤ i7 ∧ i7 < ((3 : Nat) : Int) then ((ldP ((p_23.add 3).add ((Int.toNat i7) * 1)) w_22).bind fun v_24 =>
  bnd (digest_Mac_Sum K v_24 w_22) fun r_25 w_26 =>
  bnd (law01_three_told K t0 i7 r_25.1 true w_26) fun r_27 w_28 =>
  some ((r_27.1, ()), w_28)) else none) else (some ((false, ()), w_22))) else none
noncomputable def law01_three_plays_s1 (K : Nat) (t0 : Option Addr) (i7 : Int) (j8 : Int) (a90 : Bool) (w : World) : Option ((Unit) × World) :=
  if a90 = true then ((t0).bind fun p_45 =>
  if (0 : Int) ≤ j8 ∧ j8 < ((3 : Nat) : Int) then ((t0).bind fun p_46 =>
  (ldP ((p_45.add 3).add ((Int.toNat j8) * 1)) w.drew).bind fun v_47 =>
  bnd (digest_Mac_Copy v_47 w.drew) fun r_48 w_49 =>
  if (0 : Int) ≤ i7 ∧ i7 < ((3 : Nat) : Int) then ((stC ((p_46.add 3).add ((Int.toNat i7) * 1)) (.pointer r_48.1) w_49).bind fun w_50 =>
  some ((), w_50)) else none) else none) else ((t0).bind fun p_51 =>
  if (0 : Int) ≤ j8 ∧ j8 < ((3 : Nat) : Int) then ((t0).bind fun p_52 =>
  (ldP ((p_51.add 0).add ((Int.toNat j8) * 1)) w.drew).bind fun v_53 =>
  bnd (digest_Stream_Copy v_53 w.drew) fun r_54 w_55 =>
  if (0 : Int) ≤ i7 ∧ i7 < ((3 : Nat) : Int) then ((stC ((p_52.add 0).add ((Int.toNat i7) * 1)) (.pointer r_54.1) w_55).bind fun w_56 =>
  some ((), w_56)) else none) else none)
/-- (*coffer/cofferlaw01.three).plays -/
noncomputable def law01_three_plays (K : Nat) (t0 : Option Addr) (o1 : Array Value) (macs2 : Bool) (w : World) : Option ((Bool × Unit) × World) :=
  bnd (newB o1 120 w) fun p_1 w_2 =>
  (ldI .i64 (p_1.add 1) w_2).bind fun v_3 =>
  (law01_place v_3).bind fun r_4 =>
  (ldI .i64 (p_1.add 2) w_2).bind fun v_5 =>
  (law01_place v_5).bind fun r_6 =>
  (ldI .i64 (p_1.add 0) w_2).bind fun v_7 =>
  if (v_7 == 1) = true then (if macs2 = true then ((ldA 6 p_1 w_2).bind fun v_8 =>
  bnd (law01_three_keyed K t0 r_4.1 v_8 w_2) fun r_9 w_10 =>
  some ((r_9.1, ()), w_10)) else ((ldA 6 p_1 w_2).bind fun v_11 =>
  bnd (law01_three_begun K t0 r_4.1 v_11 w_2) fun r_12 w_13 =>
  some ((r_12.1, ()), w_13))) else (if (v_7 == 2) = true then ((ldA 6 p_1 w_2).bind fun v_14 =>
  bnd (law01_three_writes K t0 r_4.1 v_14 macs2 w_2) fun r_15 w_16 =>
  some ((r_15.1, ()), w_16)) else (if (v_7 == 3) = true then (if macs2 = true then (bnd (law01_three_plays_s0 K t0 false r_4.1 w_2) fun y_29 w_30 =>
  some ((y_29.1, ()), w_30)) else ((t0).bind fun p_31 =>
  if (0 : Int) ≤ r_4.1 ∧ r_4.1 < ((3 : Nat) : Int) then ((ldP ((p_31.add 0).add ((Int.toNat r_4.1) * 1)) w_2).bind fun v_32 =>
  bnd (digest_Stream_Sum K v_32 w_2) fun r_33 w_34 =>
  bnd (law01_three_told K t0 r_4.1 r_33.1 false w_34) fun r_35 w_36 =>
  if r_35.1 = true then ((t0).bind fun p_37 =>
  if (0 : Int) ≤ r_4.1 ∧ r_4.1 < ((3 : Nat) : Int) then ((ldP ((p_37.add 0).add ((Int.toNat r_4.1) * 1)) w_36).bind fun v_38 =>
  bnd (digest_Stream_Sum K v_38 w_36) fun r_39 w_40 =>
  bnd (law01_three_told K t0 r_4.1 r_39.1 true w_40) fun r_41 w_42 =>
  some ((r_41.1, ()), w_42)) else none) else (some ((false, ()), w_36))) else none)) else (if (v_7 == 4) = true then (bnd (law01_three_reset K t0 r_4.1 macs2 w_2) fun r_43 w_44 =>
  some ((r_43.1, ()), w_44)) else (if (v_7 == 5) = true then (bnd (law01_three_plays_s1 K t0 r_4.1 r_6.1 macs2 w_2) fun y_57 w_58 =>
  (t0).bind fun p_59 =>
  if (0 : Int) ≤ r_6.1 ∧ r_6.1 < ((3 : Nat) : Int) then ((t0).bind fun p_60 =>
  (ldA 4 ((p_59.add 6).add ((Int.toNat r_6.1) * 4)) w_58.drew).bind fun v_61 =>
  if (0 : Int) ≤ r_4.1 ∧ r_4.1 < ((3 : Nat) : Int) then (if (v_61).size = 4 then ((stA ((p_60.add 6).add ((Int.toNat r_4.1) * 4)) v_61 w_58.drew).bind fun w_62 =>
  (t0).bind fun p_63 =>
  if (0 : Int) ≤ r_4.1 ∧ r_4.1 < ((3 : Nat) : Int) then (if (!macs2) = true then ((t0).bind fun p_64 =>
  if (0 : Int) ≤ r_4.1 ∧ r_4.1 < ((3 : Nat) : Int) then ((ldI .i64 (((p_63.add 6).add ((Int.toNat r_4.1) * 4)).add 0) w_62.drew).bind fun v_65 =>
  (ldP ((p_64.add 0).add ((Int.toNat r_4.1) * 1)) w_62.drew).bind fun v_66 =>
  if v_66.isNone = true then (some ((((v_65 == 0) == true), ()), w_62.drew)) else (if macs2 = true then ((t0).bind fun p_67 =>
  if (0 : Int) ≤ r_4.1 ∧ r_4.1 < ((3 : Nat) : Int) then ((ldP ((p_67.add 3).add ((Int.toNat r_4.1) * 1)) w_62.drew).bind fun v_68 =>
  some ((((v_65 == 0) == v_68.isNone), ()), w_62.drew)) else none) else (some ((((v_65 == 0) == false), ()), w_62.drew)))) else none) else ((ldI .i64 (((p_63.add 6).add ((Int.toNat r_4.1) * 4)).add 0) w_62.drew).bind fun v_69 =>
  if macs2 = true then ((t0).bind fun p_70 =>
  if (0 : Int) ≤ r_4.1 ∧ r_4.1 < ((3 : Nat) : Int) then ((ldP ((p_70.add 3).add ((Int.toNat r_4.1) * 1)) w_62.drew).bind fun v_71 =>
  some ((((v_69 == 0) == v_71.isNone), ()), w_62.drew)) else none) else (some ((((v_69 == 0) == false), ()), w_62.drew)))) else none) else none) else none) else none) else (if (v_7 == 6) = true then (if macs2 = true then ((t0).bind fun p_72 =>
  if (0 : Int) ≤ r_4.1 ∧ r_4.1 < ((3 : Nat) : Int) then ((t0).bind fun p_73 =>
  if (0 : Int) ≤ r_4.1 ∧ r_4.1 < ((3 : Nat) : Int) then ((ldP ((p_72.add 3).add ((Int.toNat r_4.1) * 1)) w_2.drew).bind fun v_74 =>
  (digest_Mac_Size v_74 w_2.drew).bind fun r_75 =>
  (ldI .i64 (((p_73.add 6).add ((Int.toNat r_4.1) * 4)).add 0) w_2.drew).bind fun v_76 =>
  (ref01_Size v_76).bind fun r_77 =>
  some (((r_75.1 == r_77.1), ()), w_2.drew)) else none) else none) else (bnd (law01_three_asks t0 r_4.1 w_2) fun r_78 w_79 =>
  some ((r_78.1, ()), w_79))) else (some ((true, ()), w_2)))))))
theorem law01_three_plays_s0_ok (K : Nat) : StmtNOk prog [(0, .ptr), (6, .bool), (7, .int .i64)] [(6, .bool)] [(6, 7), (38, 60)] (fun x w => law01_three_plays_s0 K x.1 x.2.1 x.2.2.1 w) (cd (bodyOf f79) [1, 1, 1, 0, 1, 0, 1, 1, 1, 1, 1, 0, 0, 1, 0, 0]) :=
    mk_stmtN (O := tabL []) (root := (bodyOf f79)) (π := [1, 1, 1, 0, 1, 0, 1, 1, 1, 1, 1, 0, 0, 1, 0, 0]) (Li := [(0, .ptr), (6, .bool), (7, .int .i64)]) (Lo := [(6, .bool)]) (S := (fun x w => law01_three_plays_s0 K x.1 x.2.1 x.2.2.1 w)) (law01_three_plays_Eok K) (law01_three_plays_Rok K) rfl (Orc.nil _ _ _) (by kernel_rfl) (fun _ _ => by kernel_rfl)
noncomputable def law01_three_plays_s0_se (K : Nat) : SE := stmtN [(0, .ptr), (6, .bool), (7, .int .i64)] [(6, .bool)] [(6, 7), (38, 60)] (fun x w => law01_three_plays_s0 K x.1 x.2.1 x.2.2.1 w)
theorem law01_three_plays_s0_se_ok (K : Nat) (R : Rg) (h : subRB [(6, 7), (38, 60)] R = true) : (law01_three_plays_s0_se K).Ok prog R (cd (bodyOf f79) [1, 1, 1, 0, 1, 0, 1, 1, 1, 1, 1, 0, 0, 1, 0, 0]) := stmtN_ok (Li := [(0, .ptr), (6, .bool), (7, .int .i64)]) (Lo := [(6, .bool)]) (S := (fun x w => law01_three_plays_s0 K x.1 x.2.1 x.2.2.1 w)) (law01_three_plays_s0_ok K) (subR_of h)
theorem law01_three_plays_s1_ok (K : Nat) : StmtNOk prog [(0, .ptr), (7, .int .i64), (8, .int .i64), (90, .bool)] [] [(91, 115)] (fun x w => law01_three_plays_s1 K x.1 x.2.1 x.2.2.1 x.2.2.2.1 w) (cd (bodyOf f79) [1, 1, 1, 0, 1, 0, 1, 1, 1, 1, 1, 1, 1, 1, 1, 0, 0, 1]) :=
    mk_stmtN (O := tabL []) (root := (bodyOf f79)) (π := [1, 1, 1, 0, 1, 0, 1, 1, 1, 1, 1, 1, 1, 1, 1, 0, 0, 1]) (Li := [(0, .ptr), (7, .int .i64), (8, .int .i64), (90, .bool)]) (Lo := []) (S := (fun x w => law01_three_plays_s1 K x.1 x.2.1 x.2.2.1 x.2.2.2.1 w)) (law01_three_plays_Eok K) (law01_three_plays_Rok K) rfl (Orc.nil _ _ _) (by kernel_rfl) (fun _ _ => by kernel_rfl)
noncomputable def law01_three_plays_s1_se (K : Nat) : SE := stmtN [(0, .ptr), (7, .int .i64), (8, .int .i64), (90, .bool)] [] [(91, 115)] (fun x w => law01_three_plays_s1 K x.1 x.2.1 x.2.2.1 x.2.2.2.1 w)
theorem law01_three_plays_s1_se_ok (K : Nat) (R : Rg) (h : subRB [(91, 115)] R = true) : (law01_three_plays_s1_se K).Ok prog R (cd (bodyOf f79) [1, 1, 1, 0, 1, 0, 1, 1, 1, 1, 1, 1, 1, 1, 1, 0, 0, 1]) := stmtN_ok (Li := [(0, .ptr), (7, .int .i64), (8, .int .i64), (90, .bool)]) (Lo := []) (S := (fun x w => law01_three_plays_s1 K x.1 x.2.1 x.2.2.1 x.2.2.2.1 w)) (law01_three_plays_s1_ok K) (subR_of h)
theorem law01_three_plays_facts : FunFacts prog 79 f79 (bodyOf f79) [(0, .ptr), (1, .agg), (2, .bool)] [(0, 180)] := ⟨func79, by kernel_rfl, by kernel_rfl, by kernel_rfl, by kernel_rfl, by kernel_rfl⟩
theorem law01_three_plays_calls (K : Nat) (x : TT [(0, .ptr), (1, .agg), (2, .bool)]) (w : World) (y : TR [.bool]) (w2 : World) (h : law01_three_plays K x.1 x.2.1 x.2.2.1 w = some (y, w2)) : Calls prog 79 (encA [(0, .ptr), (1, .agg), (2, .bool)] x).toArray w (fun e w3 => e = .returned (resV (encR [.bool] y)) ∧ w3 = w2) :=
    mk_fun (O := tabL [([1, 1, 1, 0, 1, 0, 1, 1, 1, 1, 1, 0, 0, 1, 0, 0], law01_three_plays_s0_se K), ([1, 1, 1, 0, 1, 0, 1, 1, 1, 1, 1, 1, 1, 1, 1, 0, 0, 1], law01_three_plays_s1_se K)]) (Lp := [(0, .ptr), (1, .agg), (2, .bool)]) (Rt := [.bool]) (S := (fun x w => law01_three_plays K x.1 x.2.1 x.2.2.1 w)) (law01_three_plays_Eok K) (law01_three_plays_Rok K) rfl law01_three_plays_facts (Orc.cons (by kernel_rfl) (law01_three_plays_s0_se_ok K [(0, 180)] (by kernel_rfl)) (Orc.cons (by kernel_rfl) (law01_three_plays_s1_se_ok K [(0, 180)] (by kernel_rfl)) (Orc.nil _ _ _))) (fun _ _ => by kernel_rfl) x w y w2 h
noncomputable def law01_three_plays_ce (K : Nat) : CE := funE [(0, .ptr), (1, .agg), (2, .bool)] [.bool] (fun x w => law01_three_plays K x.1 x.2.1 x.2.2.1 w)
theorem law01_three_plays_ok (K : Nat) : (law01_three_plays_ce K).Ok prog 79 := funE_ok (Rt := [.bool]) (S := (fun x w => law01_three_plays K x.1 x.2.1 x.2.2.1 w)) law01_three_plays_facts fun x w y w2 h => law01_three_plays_calls K x w y w2 h

noncomputable def law01_walk_E (K : Nat) : List (Nat × CE) := [(79, law01_three_plays_ce K), (27, book_SameBytes_ce K), (29, book_SpoilBytes_ce K)]
theorem law01_walk_Eok (K : Nat) : Env.Ok prog (tab (law01_walk_E K)) := (Env.cons (law01_three_plays_ok K) (Env.cons (book_SameBytes_ok K) (Env.cons (book_SpoilBytes_ok K) (Env.nil _))))
noncomputable def law01_walk_R (K : Nat) : List (Nat × RE) := []
theorem law01_walk_Rok (K : Nat) : REnv.Ok prog (tab (law01_walk_R K)) := (REnv.nil _)
noncomputable def law01_walk_s1 (K : Nat) (script0 : Sl) (i6 : Int) (w : World) : Option ((Bool × Unit) × World) :=
  if (decide (i6 < ((script0.len : Nat) : Int))) = true then (some (((decide (i6 < 40)), ()), w)) else (some ((false, ()), w))
noncomputable def law01_walk_l0_b (K : Nat) (rec : Sl → Bool → Addr → Int → World → Option ((Out (Unit) (Bool × Unit)) × World)) (script0 : Sl) (macs1 : Bool) (t5 : Addr) (i6 : Int) (w : World) : Option ((Out (Unit) (Bool × Unit)) × World) :=
  bnd (law01_walk_s1 K script0 i6 w) fun y_4 w_5 =>
  if y_4.1 = true then ((script0.a).bind fun p_6 =>
  if (0 : Int) ≤ i6 ∧ i6 < ((script0.len : Nat) : Int) then ((ldA 6 (p_6.add ((Int.toNat i6) * 6)) w_5).bind fun v_7 =>
  bnd (law01_three_plays K (some t5) v_7 macs1 w_5) fun r_8 w_9 =>
  if (!r_8.1) = true then (some (.ret (false, ()), w_9)) else (rec script0 macs1 t5 (IntKind.i64.wrap (i6 + 1)) w_9)) else none) else (some (.norm (), w_5))
noncomputable def law01_walk_l0 (K : Nat) (n : Nat) : Sl → Bool → Addr → Int → World → Option ((Out (Unit) (Bool × Unit)) × World) := iter (fun _ _ _ _ _ => none) (law01_walk_l0_b K) n
noncomputable def law01_walk_l2_b (K : Nat) (rec : Bool → Addr → Int → World → Option ((Out (Unit) (Bool × Unit)) × World)) (macs1 : Bool) (t5 : Addr) (i7 : Int) (w : World) : Option ((Out (Unit) (Bool × Unit)) × World) :=
  if (decide (i7 < 3)) = true then ((prog.built 120 [(0, (.int .i64 3)), (1, (.int .i64 i7))]).bind fun cs_13 =>
  bnd (law01_three_plays K (some t5) cs_13 macs1 w) fun r_14 w_15 =>
  if (!r_14.1) = true then (some (.ret (false, ()), w_15)) else ((prog.built 120 [(0, (.int .i64 6)), (1, (.int .i64 i7))]).bind fun cs_16 =>
  bnd (law01_three_plays K (some t5) cs_16 macs1 w_15) fun r_17 w_18 =>
  if (!r_17.1) = true then (some (.ret (false, ()), w_18)) else (rec macs1 t5 (IntKind.i64.wrap (i7 + 1)) w_18))) else (some (.norm (), w))
noncomputable def law01_walk_l2 (K : Nat) (n : Nat) : Bool → Addr → Int → World → Option ((Out (Unit) (Bool × Unit)) × World) := iter (fun _ _ _ _ => none) (law01_walk_l2_b K) n
noncomputable def law01_walk_l4_b (K : Nat) (rec : Addr → Int → Int → World → Option ((Out (Unit) (Bool × Unit)) × World)) (t5 : Addr) (i8 : Int) (k9 : Int) (w : World) : Option ((Out (Unit) (Bool × Unit)) × World) :=
  (ldS (t5.add 18) w).bind fun v_36 =>
  if (decide (k9 < ((v_36.len : Nat) : Int))) = true then ((ldS (t5.add 18) w.drew).bind fun v_37 =>
  (v_37.a).bind fun p_38 =>
  if (0 : Int) ≤ k9 ∧ k9 < ((v_37.len : Nat) : Int) then ((ldS (p_38.add ((Int.toNat k9) * 1)) w.drew).bind fun v_39 =>
  (ldS (t5.add 19) w.drew).bind fun v_40 =>
  (v_40.a).bind fun p_41 =>
  if (0 : Int) ≤ k9 ∧ k9 < ((v_40.len : Nat) : Int) then ((ldS (p_41.add ((Int.toNat k9) * 1)) w.drew).bind fun v_42 =>
  bnd (book_SameBytes K v_39 v_42 w.drew) fun r_43 w_44 =>
  if (!r_43.1) = true then (some (.ret (false, ()), w_44)) else (rec t5 i8 (IntKind.i64.wrap (k9 + 1)) w_44)) else none) else none) else (some (.norm (), w))
noncomputable def law01_walk_l4 (K : Nat) (n : Nat) : Addr → Int → Int → World → Option ((Out (Unit) (Bool × Unit)) × World) := iter (fun _ _ _ _ => none) (law01_walk_l4_b K) n
noncomputable def law01_walk_l3_b (K : Nat) (rec : Addr → Int → World → Option ((Out (Unit) (Bool × Unit)) × World)) (t5 : Addr) (i8 : Int) (w : World) : Option ((Out (Unit) (Bool × Unit)) × World) :=
  (ldS (t5.add 18) w).bind fun v_22 =>
  if (decide (i8 < ((v_22.len : Nat) : Int))) = true then ((ldS (t5.add 18) w.drew).bind fun v_23 =>
  (v_23.a).bind fun p_24 =>
  if (0 : Int) ≤ i8 ∧ i8 < ((v_23.len : Nat) : Int) then ((ldS (p_24.add ((Int.toNat i8) * 1)) w.drew).bind fun v_25 =>
  (ldS (t5.add 19) w.drew).bind fun v_26 =>
  (v_26.a).bind fun p_27 =>
  if (0 : Int) ≤ i8 ∧ i8 < ((v_26.len : Nat) : Int) then ((ldS (p_27.add ((Int.toNat i8) * 1)) w.drew).bind fun v_28 =>
  bnd (book_SameBytes K v_25 v_28 w.drew) fun r_29 w_30 =>
  if (!r_29.1) = true then (some (.ret (false, ()), w_30)) else ((ldS (t5.add 18) w_30).bind fun v_31 =>
  (v_31.a).bind fun p_32 =>
  if (0 : Int) ≤ i8 ∧ i8 < ((v_31.len : Nat) : Int) then ((ldS (p_32.add ((Int.toNat i8) * 1)) w_30).bind fun v_33 =>
  bnd (book_SpoilBytes K v_33 w_30) fun r_34 w_35 =>
  bnd (law01_walk_l4 K K t5 i8 (IntKind.i64.wrap (i8 + 1)) w_35) fun y_45 w_46 =>
  (match y_45 with
  | .norm z_47n => (rec t5 (IntKind.i64.wrap (i8 + 1)) w_46)
  | .ret z_47r => (some (.ret (z_47r.1, ()), w_46)))) else none)) else none) else none) else (some (.norm (), w))
noncomputable def law01_walk_l3 (K : Nat) (n : Nat) : Addr → Int → World → Option ((Out (Unit) (Bool × Unit)) × World) := iter (fun _ _ _ => none) (law01_walk_l3_b K) n
/-- coffer/cofferlaw01.walk -/
noncomputable def law01_walk (K : Nat) (script0 : Sl) (macs1 : Bool) (w : World) : Option ((Bool × Unit) × World) :=
  (prog.built 117 [(5, (.int .i64 65536))]).bind fun cs_1 =>
  bnd (newB cs_1 117 w) fun p_2 w_3 =>
  bnd (law01_walk_l0 K K script0 macs1 p_2 0 w_3) fun y_10 w_11 =>
  (match y_10 with
  | .norm z_12n => (bnd (law01_walk_l2 K K macs1 p_2 0 w_11) fun y_19 w_20 =>
  (match y_19 with
  | .norm z_21n => (bnd (law01_walk_l3 K K p_2 0 w_20) fun y_48 w_49 =>
  (match y_48 with
  | .norm z_50n => (some ((true, ()), w_49))
  | .ret z_50r => (some ((z_50r.1, ()), w_49))))
  | .ret z_21r => (some ((z_21r.1, ()), w_20))))
  | .ret z_12r => (some ((z_12r.1, ()), w_11)))
theorem law01_walk_s1_ok (K : Nat) : StmtNOk prog [(0, .sl), (6, .int .i64)] [(19, .bool)] [(12, 20)] (fun x w => law01_walk_s1 K x.1 x.2.1 w) (cd (bodyOf f58) [1, 1, 0, 1, 0, 0, 0, 0]) :=
    mk_stmtN (O := tabL []) (root := (bodyOf f58)) (π := [1, 1, 0, 1, 0, 0, 0, 0]) (Li := [(0, .sl), (6, .int .i64)]) (Lo := [(19, .bool)]) (S := (fun x w => law01_walk_s1 K x.1 x.2.1 w)) (law01_walk_Eok K) (law01_walk_Rok K) rfl (Orc.nil _ _ _) (by kernel_rfl) (fun _ _ => by kernel_rfl)
noncomputable def law01_walk_s1_se (K : Nat) : SE := stmtN [(0, .sl), (6, .int .i64)] [(19, .bool)] [(12, 20)] (fun x w => law01_walk_s1 K x.1 x.2.1 w)
theorem law01_walk_s1_se_ok (K : Nat) (R : Rg) (h : subRB [(12, 20)] R = true) : (law01_walk_s1_se K).Ok prog R (cd (bodyOf f58) [1, 1, 0, 1, 0, 0, 0, 0]) := stmtN_ok (Li := [(0, .sl), (6, .int .i64)]) (Lo := [(19, .bool)]) (S := (fun x w => law01_walk_s1 K x.1 x.2.1 w)) (law01_walk_s1_ok K) (subR_of h)
theorem law01_walk_l0_ok (K : Nat) (n : Nat) : StmtOk prog [(0, .sl), (1, .bool), (5, .addr), (6, .int .i64)] [] [(4, .bool)] [(4, 5), (6, 7), (12, 30)] ((fun n x w => law01_walk_l0 K n x.1 x.2.1 x.2.2.1 x.2.2.2.1 w) n) (.block 0 (.loop (cd (bodyOf f58) [1, 1, 0, 1, 0, 0]))) :=
    mk_loop (O := tabL [([1, 1, 0, 1, 0, 0, 0, 0], law01_walk_s1_se K)]) (root := (bodyOf f58)) (π := [1, 1, 0, 1, 0, 0]) (id := 0) (Li := [(0, .sl), (1, .bool), (5, .addr), (6, .int .i64)]) (Lo := []) (Lr := [(4, .bool)]) (S := (fun n x w => law01_walk_l0 K n x.1 x.2.1 x.2.2.1 x.2.2.2.1 w)) (body := cd (bodyOf f58) [1, 1, 0, 1, 0, 0]) (law01_walk_Eok K) (law01_walk_Rok K) rfl (Orc.cons (by kernel_rfl) (law01_walk_s1_se_ok K [(4, 5), (6, 7), (12, 30)] (by kernel_rfl)) (Orc.nil _ _ _)) (by kernel_rfl) (fun _ _ => by kernel_rfl) (fun _ _ _ => by kernel_rfl) n
noncomputable def law01_walk_l0_se (K : Nat) : SE := stmt [(0, .sl), (1, .bool), (5, .addr), (6, .int .i64)] [] [(4, .bool)] [(4, 5), (6, 7), (12, 30)] (fun x w => law01_walk_l0 K K x.1 x.2.1 x.2.2.1 x.2.2.2.1 w)
theorem law01_walk_l0_se_ok (K : Nat) (R : Rg) (h : subRB [(4, 5), (6, 7), (12, 30)] R = true) : (law01_walk_l0_se K).Ok prog R (.block 0 (.loop (cd (bodyOf f58) [1, 1, 0, 1, 0, 0]))) := stmt_ok (Li := [(0, .sl), (1, .bool), (5, .addr), (6, .int .i64)]) (Lo := []) (Lr := [(4, .bool)]) (S := (fun x w => law01_walk_l0 K K x.1 x.2.1 x.2.2.1 x.2.2.2.1 w)) (law01_walk_l0_ok K K) (subR_of h)
theorem law01_walk_l2_ok (K : Nat) (n : Nat) : StmtOk prog [(1, .bool), (5, .addr), (7, .int .i64)] [] [(4, .bool)] [(4, 5), (7, 8), (30, 48)] ((fun n x w => law01_walk_l2 K n x.1 x.2.1 x.2.2.1 w) n) (.block 2 (.loop (cd (bodyOf f58) [1, 1, 1, 0, 1, 0, 0]))) :=
    mk_loop (O := tabL []) (root := (bodyOf f58)) (π := [1, 1, 1, 0, 1, 0, 0]) (id := 2) (Li := [(1, .bool), (5, .addr), (7, .int .i64)]) (Lo := []) (Lr := [(4, .bool)]) (S := (fun n x w => law01_walk_l2 K n x.1 x.2.1 x.2.2.1 w)) (body := cd (bodyOf f58) [1, 1, 1, 0, 1, 0, 0]) (law01_walk_Eok K) (law01_walk_Rok K) rfl (Orc.nil _ _ _) (by kernel_rfl) (fun _ _ => by kernel_rfl) (fun _ _ _ => by kernel_rfl) n
noncomputable def law01_walk_l2_se (K : Nat) : SE := stmt [(1, .bool), (5, .addr), (7, .int .i64)] [] [(4, .bool)] [(4, 5), (7, 8), (30, 48)] (fun x w => law01_walk_l2 K K x.1 x.2.1 x.2.2.1 w)
theorem law01_walk_l2_se_ok (K : Nat) (R : Rg) (h : subRB [(4, 5), (7, 8), (30, 48)] R = true) : (law01_walk_l2_se K).Ok prog R (.block 2 (.loop (cd (bodyOf f58) [1, 1, 1, 0, 1, 0, 0]))) := stmt_ok (Li := [(1, .bool), (5, .addr), (7, .int .i64)]) (Lo := []) (Lr := [(4, .bool)]) (S := (fun x w => law01_walk_l2 K K x.1 x.2.1 x.2.2.1 w)) (law01_walk_l2_ok K K) (subR_of h)
theorem law01_walk_l4_ok (K : Nat) (n : Nat) : StmtOk prog [(5, .addr), (8, .int .i64), (9, .int .i64)] [] [(4, .bool)] [(4, 5), (9, 10), (83, 108)] ((fun n x w => law01_walk_l4 K n x.1 x.2.1 x.2.2.1 w) n) (.block 6 (.loop (cd (bodyOf f58) [1, 1, 1, 1, 0, 1, 0, 0, 1, 0, 0, 1, 1, 1, 0, 0]))) :=
    mk_loop (O := tabL []) (root := (bodyOf f58)) (π := [1, 1, 1, 1, 0, 1, 0, 0, 1, 0, 0, 1, 1, 1, 0, 0]) (id := 6) (Li := [(5, .addr), (8, .int .i64), (9, .int .i64)]) (Lo := []) (Lr := [(4, .bool)]) (S := (fun n x w => law01_walk_l4 K n x.1 x.2.1 x.2.2.1 w)) (body := cd (bodyOf f58) [1, 1, 1, 1, 0, 1, 0, 0, 1, 0, 0, 1, 1, 1, 0, 0]) (law01_walk_Eok K) (law01_walk_Rok K) rfl (Orc.nil _ _ _) (by kernel_rfl) (fun _ _ => by kernel_rfl) (fun _ _ _ => by kernel_rfl) n
noncomputable def law01_walk_l4_se (K : Nat) : SE := stmt [(5, .addr), (8, .int .i64), (9, .int .i64)] [] [(4, .bool)] [(4, 5), (9, 10), (83, 108)] (fun x w => law01_walk_l4 K K x.1 x.2.1 x.2.2.1 w)
theorem law01_walk_l4_se_ok (K : Nat) (R : Rg) (h : subRB [(4, 5), (9, 10), (83, 108)] R = true) : (law01_walk_l4_se K).Ok prog R (.block 6 (.loop (cd (bodyOf f58) [1, 1, 1, 1, 0, 1, 0, 0, 1, 0, 0, 1, 1, 1, 0, 0]))) := stmt_ok (Li := [(5, .addr), (8, .int .i64), (9, .int .i64)]) (Lo := []) (Lr := [(4, .bool)]) (S := (fun x w => law01_walk_l4 K K x.1 x.2.1 x.2.2.1 w)) (law01_walk_l4_ok K K) (subR_of h)
theorem law01_walk_l3_ok (K : Nat) (n : Nat) : StmtOk prog [(5, .addr), (8, .int .i64)] [] [(4, .bool)] [(4, 5), (8, 10), (48, 108)] ((fun n x w => law01_walk_l3 K n x.1 x.2.1 w) n) (.block 4 (.loop (cd (bodyOf f58) [1, 1, 1, 1, 0, 1, 0, 0]))) :=
    mk_loop (O := tabL [([1, 1, 1, 1, 0, 1, 0, 0, 1, 0, 0, 1, 1, 1], law01_walk_l4_se K)]) (root := (bodyOf f58)) (π := [1, 1, 1, 1, 0, 1, 0, 0]) (id := 4) (Li := [(5, .addr), (8, .int .i64)]) (Lo := []) (Lr := [(4, .bool)]) (S := (fun n x w => law01_walk_l3 K n x.1 x.2.1 w)) (body := cd (bodyOf f58) [1, 1, 1, 1, 0, 1, 0, 0]) (law01_walk_Eok K) (law01_walk_Rok K) rfl (Orc.cons (by kernel_rfl) (law01_walk_l4_se_ok K [(4, 5), (8, 10), (48, 108)] (by kernel_rfl)) (Orc.nil _ _ _)) (by kernel_rfl) (fun _ _ => by kernel_rfl) (fun _ _ _ => by kernel_rfl) n
noncomputable def law01_walk_l3_se (K : Nat) : SE := stmt [(5, .addr), (8, .int .i64)] [] [(4, .bool)] [(4, 5), (8, 10), (48, 108)] (fun x w => law01_walk_l3 K K x.1 x.2.1 w)
theorem law01_walk_l3_se_ok (K : Nat) (R : Rg) (h : subRB [(4, 5), (8, 10), (48, 108)] R = true) : (law01_walk_l3_se K).Ok prog R (.block 4 (.loop (cd (bodyOf f58) [1, 1, 1, 1, 0, 1, 0, 0]))) := stmt_ok (Li := [(5, .addr), (8, .int .i64)]) (Lo := []) (Lr := [(4, .bool)]) (S := (fun x w => law01_walk_l3 K K x.1 x.2.1 w)) (law01_walk_l3_ok K K) (subR_of h)
theorem law01_walk_facts : FunFacts prog 58 f58 (bodyOf f58) [(0, .sl), (1, .bool)] [(0, 108)] := ⟨func58, by kernel_rfl, by kernel_rfl, by kernel_rfl, by kernel_rfl, by kernel_rfl⟩
theorem law01_walk_calls (K : Nat) (x : TT [(0, .sl), (1, .bool)]) (w : World) (y : TR [.bool]) (w2 : World) (h : law01_walk K x.1 x.2.1 w = some (y, w2)) : Calls prog 58 (encA [(0, .sl), (1, .bool)] x).toArray w (fun e w3 => e = .returned (resV (encR [.bool] y)) ∧ w3 = w2) :=
    mk_fun (O := tabL [([1, 1, 0, 1], law01_walk_l0_se K), ([1, 1, 0, 1, 0, 0, 0, 0], law01_walk_s1_se K), ([1, 1, 1, 0, 1], law01_walk_l2_se K), ([1, 1, 1, 1, 0, 1], law01_walk_l3_se K), ([1, 1, 1, 1, 0, 1, 0, 0, 1, 0, 0, 1, 1, 1], law01_walk_l4_se K)]) (Lp := [(0, .sl), (1, .bool)]) (Rt := [.bool]) (S := (fun x w => law01_walk K x.1 x.2.1 w)) (law01_walk_Eok K) (law01_walk_Rok K) rfl law01_walk_facts (Orc.cons (by kernel_rfl) (law01_walk_l0_se_ok K [(0, 108)] (by kernel_rfl)) (Orc.cons (by kernel_rfl) (law01_walk_s1_se_ok K [(0, 108)] (by kernel_rfl)) (Orc.cons (by kernel_rfl) (law01_walk_l2_se_ok K [(0, 108)] (by kernel_rfl)) (Orc.cons (by kernel_rfl) (law01_walk_l3_se_ok K [(0, 108)] (by kernel_rfl)) (Orc.cons (by kernel_rfl) (law01_walk_l4_se_ok K [(0, 108)] (by kernel_rfl)) (Orc.nil _ _ _)))))) (fun _ _ => by kernel_rfl) x w y w2 h
noncomputable def law01_walk_ce (K : Nat) : CE := funE [(0, .sl), (1, .bool)] [.bool] (fun x w => law01_walk K x.1 x.2.1 w)
theorem law01_walk_ok (K : Nat) : (law01_walk_ce K).Ok prog 58 := funE_ok (Rt := [.bool]) (S := (fun x w => law01_walk K x.1 x.2.1 w)) law01_walk_facts fun x w y w2 h => law01_walk_calls K x w y w2 h

noncomputable def law01_DigestStreams_E (K : Nat) : List (Nat × CE) := [(40, digest_New_ce K), (58, law01_walk_ce K)]
theorem law01_DigestStreams_Eok (K : Nat) : Env.Ok prog (tab (law01_DigestStreams_E K)) := (Env.cons (digest_New_ok K) (Env.cons (law01_walk_ok K) (Env.nil _)))
noncomputable def law01_DigestStreams_R (K : Nat) : List (Nat × RE) := [(26, law01_num_re), (55, digest_Stream_Size_re)]
theorem law01_DigestStreams_Rok (K : Nat) : REnv.Ok prog (tab (law01_DigestStreams_R K)) := (REnv.cons (law01_num_ok) (REnv.cons (digest_Stream_Size_ok) (REnv.nil _)))
/-- coffer/cofferlaw01.DigestStreams -/
noncomputable def law01_DigestStreams (K : Nat) (script0 : Sl) (w : World) : Option ((Bool × Unit) × World) :=
  bnd (digest_New K 256 w) fun r_1 w_2 =>
  (law01_num r_1.2.1).bind fun r_3 =>
  if (r_3.1 != 0) = true then (some ((false, ()), w_2)) else (if r_1.1.isNone = true then (some ((false, ()), w_2)) else ((digest_Stream_Size r_1.1 w_2).bind fun r_4 =>
  if (r_4.1 != 32) = true then (some ((false, ()), w_2)) else (bnd (law01_walk K script0 false w_2) fun r_5 w_6 =>
  some ((r_5.1, ()), w_6))))
theorem law01_DigestStreams_facts : FunFacts prog 14 f14 (bodyOf f14) [(0, .sl)] [(0, 23)] := ⟨func14, by kernel_rfl, by kernel_rfl, by kernel_rfl, by kernel_rfl, by kernel_rfl⟩
theorem law01_DigestStreams_calls (K : Nat) (x : TT [(0, .sl)]) (w : World) (y : TR [.bool]) (w2 : World) (h : law01_DigestStreams K x.1 w = some (y, w2)) : Calls prog 14 (encA [(0, .sl)] x).toArray w (fun e w3 => e = .returned (resV (encR [.bool] y)) ∧ w3 = w2) :=
    mk_fun (O := tabL []) (Lp := [(0, .sl)]) (Rt := [.bool]) (S := (fun x w => law01_DigestStreams K x.1 w)) (law01_DigestStreams_Eok K) (law01_DigestStreams_Rok K) rfl law01_DigestStreams_facts (Orc.nil _ _ _) (fun _ _ => by kernel_rfl) x w y w2 h
noncomputable def law01_DigestStreams_ce (K : Nat) : CE := funE [(0, .sl)] [.bool] (fun x w => law01_DigestStreams K x.1 w)
theorem law01_DigestStreams_ok (K : Nat) : (law01_DigestStreams_ce K).Ok prog 14 := funE_ok (Rt := [.bool]) (S := (fun x w => law01_DigestStreams K x.1 w)) law01_DigestStreams_facts fun x w y w2 h => law01_DigestStreams_calls K x w y w2 h

noncomputable def law01_DigestMacs_E (K : Nat) : List (Nat × CE) := [(41, digest_NewMac_ce K), (58, law01_walk_ce K)]
theorem law01_DigestMacs_Eok (K : Nat) : Env.Ok prog (tab (law01_DigestMacs_E K)) := (Env.cons (digest_NewMac_ok K) (Env.cons (law01_walk_ok K) (Env.nil _)))
noncomputable def law01_DigestMacs_R (K : Nat) : List (Nat × RE) := [(26, law01_num_re), (57, digest_Mac_Size_re)]
theorem law01_DigestMacs_Rok (K : Nat) : REnv.Ok prog (tab (law01_DigestMacs_R K)) := (REnv.cons (law01_num_ok) (REnv.cons (digest_Mac_Size_ok) (REnv.nil _)))
/-- coffer/cofferlaw01.DigestMacs -/
noncomputable def law01_DigestMacs (K : Nat) (script0 : Sl) (w : World) : Option ((Bool × Unit) × World) :=
  bnd (bldS prog 25 1 #[(0, (.int .u8 1))] w) fun s_1 w_2 =>
  bnd (digest_NewMac K 256 s_1 w_2) fun r_3 w_4 =>
  (law01_num r_3.2.1).bind fun r_5 =>
  if (r_5.1 != 0) = true then (some ((false, ()), w_4)) else (if r_3.1.isNone = true then (some ((false, ()), w_4)) else ((digest_Mac_Size r_3.1 w_4).bind fun r_6 =>
  if (r_6.1 != 32) = true then (some ((false, ()), w_4)) else (bnd (law01_walk K script0 true w_4) fun r_7 w_8 =>
  some ((r_7.1, ()), w_8))))
theorem law01_DigestMacs_facts : FunFacts prog 15 f15 (bodyOf f15) [(0, .sl)] [(0, 24)] := ⟨func15, by kernel_rfl, by kernel_rfl, by kernel_rfl, by kernel_rfl, by kernel_rfl⟩
theorem law01_DigestMacs_calls (K : Nat) (x : TT [(0, .sl)]) (w : World) (y : TR [.bool]) (w2 : World) (h : law01_DigestMacs K x.1 w = some (y, w2)) : Calls prog 15 (encA [(0, .sl)] x).toArray w (fun e w3 => e = .returned (resV (encR [.bool] y)) ∧ w3 = w2) :=
    mk_fun (O := tabL []) (Lp := [(0, .sl)]) (Rt := [.bool]) (S := (fun x w => law01_DigestMacs K x.1 w)) (law01_DigestMacs_Eok K) (law01_DigestMacs_Rok K) rfl law01_DigestMacs_facts (Orc.nil _ _ _) (fun _ _ => by kernel_rfl) x w y w2 h
noncomputable def law01_DigestMacs_ce (K : Nat) : CE := funE [(0, .sl)] [.bool] (fun x w => law01_DigestMacs K x.1 w)
theorem law01_DigestMacs_ok (K : Nat) : (law01_DigestMacs_ce K).Ok prog 15 := funE_ok (Rt := [.bool]) (S := (fun x w => law01_DigestMacs K x.1 w)) law01_DigestMacs_facts fun x w y w2 h => law01_DigestMacs_calls K x w y w2 h

noncomputable def digest_Base64_E (K : Nat) : List (Nat × CE) := [(77, strings_Builder_WriteByte_ce), (78, strings_Builder_String_ce)]
theorem digest_Base64_Eok (K : Nat) : Env.Ok prog (tab (digest_Base64_E K)) := (Env.cons (strings_Builder_WriteByte_ok) (Env.cons (strings_Builder_String_ok) (Env.nil _)))
noncomputable def digest_Base64_R (K : Nat) : List (Nat × RE) := []
theorem digest_Base64_Rok (K : Nat) : REnv.Ok prog (tab (digest_Base64_R K)) := (REnv.nil _)
noncomputable def digest_Base64_l1_b (K : Nat) (rec : Sl → Addr → Int → Int → Int → World → Option ((Unit) × World)) (b0 : Sl) (out3 : Addr) (n5 : Int) (v6 : Int) (a33 : Int) (w : World) : Option ((Unit) × World) :=
  if (decide (a33 < 4)) = true then (if (decide (a33 > n5)) = true then (bnd (strings_Builder_WriteByte (some out3) 61 w) fun r_10 w_11 =>
  rec b0 out3 n5 v6 (IntKind.i64.wrap (a33 + 1)) w_11) else (if (0 : Int) ≤ (IntKind.i64.wrap (18 - (IntKind.i64.wrap (6 * a33)))) then (if (0 : Int) ≤ (bits .and .u64 (Int.fdiv v6 (2 ^ (min (Int.toNat (IntKind.i64.wrap (18 - (IntKind.i64.wrap (6 * a33))))) IntKind.u64.bits))) 63) then ((str4[(Int.toNat (bits .and .u64 (Int.fdiv v6 (2 ^ (min (Int.toNat (IntKind.i64.wrap (18 - (IntKind.i64.wrap (6 * a33))))) IntKind.u64.bits))) 63))]?).bind fun b_12 =>
  bnd (strings_Builder_WriteByte (some out3) ((b_12.toNat : Nat) : Int) w) fun r_13 w_14 =>
  rec b0 out3 n5 v6 (IntKind.i64.wrap (a33 + 1)) w_14) else none) else none)) else (some ((), w))
noncomputable def digest_Base64_l1 (K : Nat) (n : Nat) : Sl → Addr → Int → Int → Int → World → Option ((Unit) × World) := iter (fun _ _ _ _ _ _ => none) (digest_Base64_l1_b K) n
noncomputable def digest_Base64_l0_b (K : Nat) (rec : Sl → Addr → World → Option ((Unit) × World)) (b0 : Sl) (out3 : Addr) (w : World) : Option ((Unit) × World) :=
  if (decide (((b0.len : Nat) : Int) > 0)) = true then (bnd (newB z121 121 w) fun three_3 w_4 =>
  bnd (cpy prog 25 25 (.slice (sla (some three_3) 0 3 1) (3 - 0) (3 - 0)) (.slice b0.a b0.len b0.cap) w_4) fun s_5 w_6 =>
  if (0 : Int) ≤ s_5 ∧ s_5 ≤ ((b0.len : Nat) : Int) then ((ldI .u8 (three_3.add (0 * 1)) w_6).bind fun v_7 =>
  (ldI .u8 (three_3.add (1 * 1)) w_6).bind fun v_8 =>
  (ldI .u8 (three_3.add (2 * 1)) w_6).bind fun v_9 =>
  bnd (digest_Base64_l1 K K ⟨(sla b0.a (Int.toNat (s_5)) b0.cap 1), (b0.len - (Int.toNat (s_5))), (b0.cap - (Int.toNat (s_5)))⟩ out3 s_5 (bits .or .u64 (bits .or .u64 (IntKind.u64.wrap ((IntKind.u64.wrap v_7) * 2 ^ 16)) (IntKind.u64.wrap ((IntKind.u64.wrap v_8) * 2 ^ 8))) (IntKind.u64.wrap v_9)) 0 w_6) fun y_15 w_16 =>
  rec ⟨(sla b0.a (Int.toNat (s_5)) b0.cap 1), (b0.len - (Int.toNat (s_5))), (b0.cap - (Int.toNat (s_5)))⟩ out3 w_16) else none) else (some ((), w))
noncomputable def digest_Base64_l0 (K : Nat) (n : Nat) : Sl → Addr → World → Option ((Unit) × World) := iter (fun _ _ _ => none) (digest_Base64_l0_b K) n
/-- coffer/digest.Base64 -/
noncomputable def digest_Base64 (K : Nat) (b0 : Sl) (w : World) : Option ((ByteArray × Unit) × World) :=
  if (decide (((b0.len : Nat) : Int) > 12582912)) = true then (some ((str0, ()), w)) else (bnd (newB z105 105 w) fun out_1 w_2 =>
  bnd (digest_Base64_l0 K K b0 out_1 w_2) fun y_17 w_18 =>
  bnd (strings_Builder_String (some out_1) w_18) fun r_19 w_20 =>
  some ((r_19.1, ()), w_20))
theorem digest_Base64_l1_ok (K : Nat) (n : Nat) : StmtNOk prog [(0, .sl), (3, .addr), (5, .int .i64), (6, .int .u64), (33, .int .i64)] [] [(7, 8), (33, 49)] ((fun n x w => digest_Base64_l1 K n x.1 x.2.1 x.2.2.1 x.2.2.2.1 x.2.2.2.2.1 w) n) (.block 2 (.loop (cd (bodyOf f59) [1, 1, 1, 0, 0, 0, 1, 0, 1, 1, 1, 1, 1, 0, 0]))) :=
    mk_loopN (O := tabL []) (root := (bodyOf f59)) (π := [1, 1, 1, 0, 0, 0, 1, 0, 1, 1, 1, 1, 1, 0, 0]) (id := 2) (Li := [(0, .sl), (3, .addr), (5, .int .i64), (6, .int .u64), (33, .int .i64)]) (Lo := []) (S := (fun n x w => digest_Base64_l1 K n x.1 x.2.1 x.2.2.1 x.2.2.2.1 x.2.2.2.2.1 w)) (body := cd (bodyOf f59) [1, 1, 1, 0, 0, 0, 1, 0, 1, 1, 1, 1, 1, 0, 0]) (digest_Base64_Eok K) (digest_Base64_Rok K) rfl (Orc.nil _ _ _) (by kernel_rfl) (fun _ _ => by kernel_rfl) (fun _ _ _ => by kernel_rfl) n
noncomputable def digest_Base64_l1_se (K : Nat) : SE := stmtN [(0, .sl), (3, .addr), (5, .int .i64), (6, .int .u64), (33, .int .i64)] [] [(7, 8), (33, 49)] (fun x w => digest_Base64_l1 K K x.1 x.2.1 x.2.2.1 x.2.2.2.1 x.2.2.2.2.1 w)
theorem digest_Base64_l1_se_ok (K : Nat) (R : Rg) (h : subRB [(7, 8), (33, 49)] R = true) : (digest_Base64_l1_se K).Ok prog R (.block 2 (.loop (cd (bodyOf f59) [1, 1, 1, 0, 0, 0, 1, 0, 1, 1, 1, 1, 1, 0, 0]))) := stmtN_ok (Li := [(0, .sl), (3, .addr), (5, .int .i64), (6, .int .u64), (33, .int .i64)]) (Lo := []) (S := (fun x w => digest_Base64_l1 K K x.1 x.2.1 x.2.2.1 x.2.2.2.1 x.2.2.2.2.1 w)) (digest_Base64_l1_ok K K) (subR_of h)
theorem digest_Base64_l0_ok (K : Nat) (n : Nat) : StmtNOk prog [(0, .sl), (3, .addr)] [] [(0, 1), (4, 8), (11, 49)] ((fun n x w => digest_Base64_l0 K n x.1 x.2.1 w) n) (.block 0 (.loop (cd (bodyOf f59) [1, 1, 1, 0, 0, 0]))) :=
    mk_loopN (O := tabL [([1, 1, 1, 0, 0, 0, 1, 0, 1, 1, 1, 1, 1], digest_Base64_l1_se K)]) (root := (bodyOf f59)) (π := [1, 1, 1, 0, 0, 0]) (id := 0) (Li := [(0, .sl), (3, .addr)]) (Lo := []) (S := (fun n x w => digest_Base64_l0 K n x.1 x.2.1 w)) (body := cd (bodyOf f59) [1, 1, 1, 0, 0, 0]) (digest_Base64_Eok K) (digest_Base64_Rok K) rfl (Orc.cons (by kernel_rfl) (digest_Base64_l1_se_ok K [(0, 1), (4, 8), (11, 49)] (by kernel_rfl)) (Orc.nil _ _ _)) (by kernel_rfl) (fun _ _ => by kernel_rfl) (fun _ _ _ => by kernel_rfl) n
noncomputable def digest_Base64_l0_se (K : Nat) : SE := stmtN [(0, .sl), (3, .addr)] [] [(0, 1), (4, 8), (11, 49)] (fun x w => digest_Base64_l0 K K x.1 x.2.1 w)
theorem digest_Base64_l0_se_ok (K : Nat) (R : Rg) (h : subRB [(0, 1), (4, 8), (11, 49)] R = true) : (digest_Base64_l0_se K).Ok prog R (.block 0 (.loop (cd (bodyOf f59) [1, 1, 1, 0, 0, 0]))) := stmtN_ok (Li := [(0, .sl), (3, .addr)]) (Lo := []) (S := (fun x w => digest_Base64_l0 K K x.1 x.2.1 w)) (digest_Base64_l0_ok K K) (subR_of h)
theorem digest_Base64_facts : FunFacts prog 59 f59 (bodyOf f59) [(0, .sl)] [(0, 50)] := ⟨func59, by kernel_rfl, by kernel_rfl, by kernel_rfl, by kernel_rfl, by kernel_rfl⟩
theorem digest_Base64_calls (K : Nat) (x : TT [(0, .sl)]) (w : World) (y : TR [.str]) (w2 : World) (h : digest_Base64 K x.1 w = some (y, w2)) : Calls prog 59 (encA [(0, .sl)] x).toArray w (fun e w3 => e = .returned (resV (encR [.str] y)) ∧ w3 = w2) :=
    mk_fun (O := tabL [([1, 1, 1, 0], digest_Base64_l0_se K), ([1, 1, 1, 0, 0, 0, 1, 0, 1, 1, 1, 1, 1], digest_Base64_l1_se K)]) (Lp := [(0, .sl)]) (Rt := [.str]) (S := (fun x w => digest_Base64 K x.1 w)) (digest_Base64_Eok K) (digest_Base64_Rok K) rfl digest_Base64_facts (Orc.cons (by kernel_rfl) (digest_Base64_l0_se_ok K [(0, 50)] (by kernel_rfl)) (Orc.cons (by kernel_rfl) (digest_Base64_l1_se_ok K [(0, 50)] (by kernel_rfl)) (Orc.nil _ _ _))) (fun _ _ => by kernel_rfl) x w y w2 h
noncomputable def digest_Base64_ce (K : Nat) : CE := funE [(0, .sl)] [.str] (fun x w => digest_Base64 K x.1 w)
theorem digest_Base64_ok (K : Nat) : (digest_Base64_ce K).Ok prog 59 := funE_ok (Rt := [.str]) (S := (fun x w => digest_Base64 K x.1 w)) digest_Base64_facts fun x w y w2 h => digest_Base64_calls K x w y w2 h

noncomputable def law01_DigestLimits_E (K : Nat) : List (Nat × CE) := [(24, digest_Sum_ce K), (31, digest_Code_ce K), (40, digest_New_ce K), (41, digest_NewMac_ce K), (42, digest_Stream_Write_ce K), (43, digest_Mac_Write_ce K), (44, digest_Stream_Sum_ce K), (27, book_SameBytes_ce K), (45, digest_Mac_Sum_ce K), (48, digest_Hex_ce K), (59, digest_Base64_ce K)]
theorem law01_DigestLimits_Eok (K : Nat) : Env.Ok prog (tab (law01_DigestLimits_E K)) := (Env.cons (digest_Sum_ok K) (Env.cons (digest_Code_ok K) (Env.cons (digest_New_ok K) (Env.cons (digest_NewMac_ok K) (Env.cons (digest_Stream_Write_ok K) (Env.cons (digest_Mac_Write_ok K) (Env.cons (digest_Stream_Sum_ok K) (Env.cons (book_SameBytes_ok K) (Env.cons (digest_Mac_Sum_ok K) (Env.cons (digest_Hex_ok K) (Env.cons (digest_Base64_ok K) (Env.nil _))))))))))))
noncomputable def law01_DigestLimits_R (K : Nat) : List (Nat × RE) := [(26, law01_num_re), (46, digest_Stream_Count_re)]
theorem law01_DigestLimits_Rok (K : Nat) : REnv.Ok prog (tab (law01_DigestLimits_R K)) := (REnv.cons (law01_num_ok) (REnv.cons (digest_Stream_Count_ok) (REnv.nil _)))
noncomputable def law01_DigestLimits_l0_b (K : Nat) (rec : Sl → Sl → Int → World → Option ((Sl × Unit) × World)) (mega1 : Sl) (parts2 : Sl) (i3 : Int) (w : World) : Option ((Sl × Unit) × World) :=
  if (decide (i3 < 32)) = true then (bnd (bldS prog 24 1 #[(0, (.slice mega1.a mega1.len mega1.cap))] w) fun s_3 w_4 =>
  bnd (apd prog 24 24 (.slice parts2.a parts2.len parts2.cap) (.slice s_3.a s_3.len s_3.cap) w_4) fun s_5 w_6 =>
  rec mega1 s_5 (IntKind.i64.wrap (i3 + 1)) w_6) else (some ((parts2, ()), w))
noncomputable def law01_DigestLimits_l0 (K : Nat) (n : Nat) : Sl → Sl → Int → World → Option ((Sl × Unit) × World) := iter (fun _ _ _ _ => none) (law01_DigestLimits_l0_b K) n
noncomputable def law01_DigestLimits_s1 (K : Nat) (a5 : Sl) (e6 : Int) (b7 : Sl) (f8 : Int) (w : World) : Option ((Bool × Unit) × World) :=
  (law01_num e6).bind fun r_19 =>
  if (r_19.1 != 4) = true then (some ((true, ()), w)) else ((law01_num f8).bind fun r_20 =>
  if (r_20.1 != 4) = true then (some ((true, ()), w)) else (some ((((IntKind.i64.wrap (((a5.len : Nat) : Int) + ((b7.len : Nat) : Int))) != 0), ()), w)))
noncomputable def law01_DigestLimits_s2 (K : Nat) (e6 : Int) (f8 : Int) (s9 : Option Addr) (m10 : Option Addr) (w : World) : Option ((Bool × Unit) × World) :=
  (law01_num e6).bind fun r_32 =>
  if (r_32.1 != 0) = true then (some ((true, ()), w)) else ((law01_num f8).bind fun r_33 =>
  if (r_33.1 != 0) = true then (some ((true, ()), w)) else (if s9.isNone = true then (some ((true, ()), w)) else (some ((m10.isNone, ()), w))))
noncomputable def law01_DigestLimits_s3 (K : Nat) (parts2 : Sl) (s9 : Option Addr) (m10 : Option Addr) (w : World) : Option ((Bool × Unit) × World) :=
  bnd (bldS prog 25 1 #[(0, (.int .u8 97))] w) fun s_36 w_37 =>
  bnd (cnv prog 25 25 (.slice s_36.a s_36.len s_36.cap) w_37) fun c_38 w_39 =>
  (asS c_38).bind fun v_40 =>
  bnd (bldS prog 24 1 #[(0, (.slice v_40.a v_40.len v_40.cap))] w_39) fun s_41 w_42 =>
  bnd (digest_Stream_Write K s9 s_41 w_42) fun r_43 w_44 =>
  (law01_num r_43.1).bind fun r_45 =>
  if (r_45.1 != 0) = true then (some ((true, ()), w_44)) else (bnd (bldS prog 25 1 #[(0, (.int .u8 97))] w_44) fun s_46 w_47 =>
  bnd (cnv prog 25 25 (.slice s_46.a s_46.len s_46.cap) w_47) fun c_48 w_49 =>
  (asS c_48).bind fun v_50 =>
  bnd (bldS prog 24 1 #[(0, (.slice v_50.a v_50.len v_50.cap))] w_49) fun s_51 w_52 =>
  bnd (digest_Mac_Write K m10 s_51 w_52) fun r_53 w_54 =>
  (law01_num r_53.1).bind fun r_55 =>
  if (r_55.1 != 0) = true then (some ((true, ()), w_54)) else (bnd (digest_Stream_Write K s9 parts2 w_54) fun r_56 w_57 =>
  (law01_num r_56.1).bind fun r_58 =>
  if (r_58.1 != 4) = true then (some ((true, ()), w_57)) else (bnd (digest_Mac_Write K m10 parts2 w_57) fun r_59 w_60 =>
  (law01_num r_59.1).bind fun r_61 =>
  if (r_61.1 != 4) = true then (some ((true, ()), w_60)) else ((digest_Stream_Count s9 w_60).bind fun r_62 =>
  some (((r_62.1 != 1), ()), w_60)))))
noncomputable def law01_DigestLimits_s4 (K : Nat) (s9 : Option Addr) (m10 : Option Addr) (w : World) : Option ((Bool × Unit) × World) :=
  bnd (bldS prog 25 2 #[(0, (.int .u8 98)), (1, (.int .u8 99))] w) fun s_65 w_66 =>
  bnd (cnv prog 25 25 (.slice s_65.a s_65.len s_65.cap) w_66) fun c_67 w_68 =>
  (asS c_67).bind fun v_69 =>
  bnd (bldS prog 24 1 #[(0, (.slice v_69.a v_69.len v_69.cap))] w_68) fun s_70 w_71 =>
  bnd (digest_Stream_Write K s9 s_70 w_71) fun r_72 w_73 =>
  (law01_num r_72.1).bind fun r_74 =>
  if (r_74.1 != 0) = true then (some ((true, ()), w_73)) else (bnd (bldS prog 25 2 #[(0, (.int .u8 98)), (1, (.int .u8 99))] w_73) fun s_75 w_76 =>
  bnd (cnv prog 25 25 (.slice s_75.a s_75.len s_75.cap) w_76) fun c_77 w_78 =>
  (asS c_77).bind fun v_79 =>
  bnd (bldS prog 24 1 #[(0, (.slice v_79.a v_79.len v_79.cap))] w_78) fun s_80 w_81 =>
  bnd (digest_Mac_Write K m10 s_80 w_81) fun r_82 w_83 =>
  (law01_num r_82.1).bind fun r_84 =>
  some (((r_84.1 != 0), ()), w_83))
/-- coffer/cofferlaw01.DigestLimits -/
noncomputable def law01_DigestLimits (K : Nat)  (w : World) : Option ((Bool × Unit) × World) :=
  bnd (mkS prog 25 (.int .i64 1048576) (.int .i64 1048576) w) fun s_1 w_2 =>
  bnd (law01_DigestLimits_l0 K K s_1 ⟨none, 0, 0⟩ 0 w_2) fun y_7 w_8 =>
  bnd (bldS prog 25 1 #[(0, (.int .u8 1))] w_8) fun s_9 w_10 =>
  bnd (bldS prog 24 1 #[(0, (.slice s_9.a s_9.len s_9.cap))] w_10) fun s_11 w_12 =>
  bnd (apd prog 24 24 (.slice y_7.1.a y_7.1.len y_7.1.cap) (.slice s_11.a s_11.len s_11.cap) w_12) fun s_13 w_14 =>
  bnd (digest_Sum K 256 s_13 w_14) fun r_15 w_16 =>
  bnd (digest_Code K 256 ⟨none, 0, 0⟩ s_13 w_16) fun r_17 w_18 =>
  bnd (law01_DigestLimits_s1 K r_15.1 r_15.2.1 r_17.1 r_17.2.1 w_18) fun y_21 w_22 =>
  if y_21.1 = true then (some ((false, ()), w_22)) else (bnd (digest_New K 512 w_22) fun r_23 w_24 =>
  bnd (bldS prog 25 1 #[(0, (.int .u8 107))] w_24) fun s_25 w_26 =>
  bnd (cnv prog 25 25 (.slice s_25.a s_25.len s_25.cap) w_26) fun c_27 w_28 =>
  (asS c_27).bind fun v_29 =>
  bnd (digest_NewMac K 384 v_29 w_28) fun r_30 w_31 =>
  bnd (law01_DigestLimits_s2 K r_23.2.1 r_30.2.1 r_23.1 r_30.1 w_31) fun y_34 w_35 =>
  if y_34.1 = true then (some ((false, ()), w_35)) else (bnd (law01_DigestLimits_s3 K y_7.1 r_23.1 r_30.1 w_35) fun y_63 w_64 =>
  if y_63.1 = true then (some ((false, ()), w_64)) else (bnd (law01_DigestLimits_s4 K r_23.1 r_30.1 w_64) fun y_85 w_86 =>
  if y_85.1 = true then (some ((false, ()), w_86)) else (bnd (bldS prog 25 3 #[(0, (.int .u8 97)), (1, (.int .u8 98)), (2, (.int .u8 99))] w_86) fun s_87 w_88 =>
  bnd (cnv prog 25 25 (.slice s_87.a s_87.len s_87.cap) w_88) fun c_89 w_90 =>
  (asS c_89).bind fun v_91 =>
  bnd (bldS prog 24 1 #[(0, (.slice v_91.a v_91.len v_91.cap))] w_90) fun s_92 w_93 =>
  bnd (digest_Sum K 512 s_92 w_93) fun r_94 w_95 =>
  bnd (bldS prog 25 1 #[(0, (.int .u8 107))] w_95) fun s_96 w_97 =>
  bnd (cnv prog 25 25 (.slice s_96.a s_96.len s_96.cap) w_97) fun c_98 w_99 =>
  (asS c_98).bind fun v_100 =>
  bnd (bldS prog 25 3 #[(0, (.int .u8 97)), (1, (.int .u8 98)), (2, (.int .u8 99))] w_99) fun s_101 w_102 =>
  bnd (cnv prog 25 25 (.slice s_101.a s_101.len s_101.cap) w_102) fun c_103 w_104 =>
  (asS c_103).bind fun v_105 =>
  bnd (bldS prog 24 1 #[(0, (.slice v_105.a v_105.len v_105.cap))] w_104) fun s_106 w_107 =>
  bnd (digest_Code K 384 v_100 s_106 w_107) fun r_108 w_109 =>
  (law01_num r_94.2.1).bind fun r_110 =>
  if (r_110.1 == 0) = true then ((law01_num r_108.2.1).bind fun r_111 =>
  if (r_111.1 == 0) = true then (bnd (digest_Stream_Sum K r_23.1 w_109) fun r_112 w_113 =>
  bnd (book_SameBytes K r_112.1 r_94.1 w_113) fun r_114 w_115 =>
  if r_114.1 = true then (bnd (digest_Mac_Sum K r_30.1 w_115) fun r_116 w_117 =>
  bnd (book_SameBytes K r_116.1 r_108.1 w_117) fun r_118 w_119 =>
  if r_118.1 = true then (if (((r_94.1.len : Nat) : Int) == 64) = true then (bnd (mkS prog 25 (.int .i64 8388609) (.int .i64 8388609) w_119) fun s_120 w_121 =>
  bnd (digest_Hex K s_120 w_121) fun r_122 w_123 =>
  if (r_122.1.toList == str0.toList) = true then (bnd (mkS prog 25 (.int .i64 12582913) (.int .i64 12582913) w_123) fun s_124 w_125 =>
  bnd (digest_Base64 K s_124 w_125) fun r_126 w_127 =>
  some (((r_126.1.toList == str0.toList), ()), w_127)) else (some ((false, ()), w_123))) else (some ((false, ()), w_119))) else (some ((false, ()), w_119))) else (some ((false, ()), w_115))) else (some ((false, ()), w_109))) else (some ((false, ()), w_109))))))
theorem law01_DigestLimits_l0_ok (K : Nat) (n : Nat) : StmtNOk prog [(1, .sl), (2, .sl), (3, .int .i64)] [(2, .sl)] [(2, 4), (14, 22)] ((fun n x w => law01_DigestLimits_l0 K n x.1 x.2.1 x.2.2.1 w) n) (.block 0 (.loop (cd (bodyOf f16) [1, 1, 1, 0, 1, 0, 0]))) :=
    mk_loopN (O := tabL []) (root := (bodyOf f16)) (π := [1, 1, 1, 0, 1, 0, 0]) (id := 0) (Li := [(1, .sl), (2, .sl), (3, .int .i64)]) (Lo := [(2, .sl)]) (S := (fun n x w => law01_DigestLimits_l0 K n x.1 x.2.1 x.2.2.1 w)) (body := cd (bodyOf f16) [1, 1, 1, 0, 1, 0, 0]) (law01_DigestLimits_Eok K) (law01_DigestLimits_Rok K) rfl (Orc.nil _ _ _) (by kernel_rfl) (fun _ _ => by kernel_rfl) (fun _ _ _ => by kernel_rfl) n
noncomputable def law01_DigestLimits_l0_se (K : Nat) : SE := stmtN [(1, .sl), (2, .sl), (3, .int .i64)] [(2, .sl)] [(2, 4), (14, 22)] (fun x w => law01_DigestLimits_l0 K K x.1 x.2.1 x.2.2.1 w)
theorem law01_DigestLimits_l0_se_ok (K : Nat) (R : Rg) (h : subRB [(2, 4), (14, 22)] R = true) : (law01_DigestLimits_l0_se K).Ok prog R (.block 0 (.loop (cd (bodyOf f16) [1, 1, 1, 0, 1, 0, 0]))) := stmtN_ok (Li := [(1, .sl), (2, .sl), (3, .int .i64)]) (Lo := [(2, .sl)]) (S := (fun x w => law01_DigestLimits_l0 K K x.1 x.2.1 x.2.2.1 w)) (law01_DigestLimits_l0_ok K K) (subR_of h)
theorem law01_DigestLimits_s1_ok (K : Nat) : StmtNOk prog [(5, .sl), (6, .int .i64), (7, .sl), (8, .int .i64)] [(51, .bool)] [(36, 52)] (fun x w => law01_DigestLimits_s1 K x.1 x.2.1 x.2.2.1 x.2.2.2.1 w) (cd (bodyOf f16) [1, 1, 1, 1, 1, 1, 1, 0, 0]) :=
    mk_stmtN (O := tabL []) (root := (bodyOf f16)) (π := [1, 1, 1, 1, 1, 1, 1, 0, 0]) (Li := [(5, .sl), (6, .int .i64), (7, .sl), (8, .int .i64)]) (Lo := [(51, .bool)]) (S := (fun x w => law01_DigestLimits_s1 K x.1 x.2.1 x.2.2.1 x.2.2.2.1 w)) (law01_DigestLimits_Eok K) (law01_DigestLimits_Rok K) rfl (Orc.nil _ _ _) (by kernel_rfl) (fun _ _ => by kernel_rfl)
noncomputable def law01_DigestLimits_s1_se (K : Nat) : SE := stmtN [(5, .sl), (6, .int .i64), (7, .sl), (8, .int .i64)] [(51, .bool)] [(36, 52)] (fun x w => law01_DigestLimits_s1 K x.1 x.2.1 x.2.2.1 x.2.2.2.1 w)
theorem law01_DigestLimits_s1_se_ok (K : Nat) (R : Rg) (h : subRB [(36, 52)] R = true) : (law01_DigestLimits_s1_se K).Ok prog R (cd (bodyOf f16) [1, 1, 1, 1, 1, 1, 1, 0, 0]) := stmtN_ok (Li := [(5, .sl), (6, .int .i64), (7, .sl), (8, .int .i64)]) (Lo := [(51, .bool)]) (S := (fun x w => law01_DigestLimits_s1 K x.1 x.2.1 x.2.2.1 x.2.2.2.1 w)) (law01_DigestLimits_s1_ok K) (subR_of h)
theorem law01_DigestLimits_s2_ok (K : Nat) : StmtNOk prog [(6, .int .i64), (8, .int .i64), (9, .ptr), (10, .ptr)] [(77, .bool)] [(62, 78)] (fun x w => law01_DigestLimits_s2 K x.1 x.2.1 x.2.2.1 x.2.2.2.1 w) (cd (bodyOf f16) [1, 1, 1, 1, 1, 1, 1, 1, 1, 1, 0, 0]) :=
    mk_stmtN (O := tabL []) (root := (bodyOf f16)) (π := [1, 1, 1, 1, 1, 1, 1, 1, 1, 1, 0, 0]) (Li := [(6, .int .i64), (8, .int .i64), (9, .ptr), (10, .ptr)]) (Lo := [(77, .bool)]) (S := (fun x w => law01_DigestLimits_s2 K x.1 x.2.1 x.2.2.1 x.2.2.2.1 w)) (law01_DigestLimits_Eok K) (law01_DigestLimits_Rok K) rfl (Orc.nil _ _ _) (by kernel_rfl) (fun _ _ => by kernel_rfl)
noncomputable def law01_DigestLimits_s2_se (K : Nat) : SE := stmtN [(6, .int .i64), (8, .int .i64), (9, .ptr), (10, .ptr)] [(77, .bool)] [(62, 78)] (fun x w => law01_DigestLimits_s2 K x.1 x.2.1 x.2.2.1 x.2.2.2.1 w)
theorem law01_DigestLimits_s2_se_ok (K : Nat) (R : Rg) (h : subRB [(62, 78)] R = true) : (law01_DigestLimits_s2_se K).Ok prog R (cd (bodyOf f16) [1, 1, 1, 1, 1, 1, 1, 1, 1, 1, 0, 0]) := stmtN_ok (Li := [(6, .int .i64), (8, .int .i64), (9, .ptr), (10, .ptr)]) (Lo := [(77, .bool)]) (S := (fun x w => law01_DigestLimits_s2 K x.1 x.2.1 x.2.2.1 x.2.2.2.1 w)) (law01_DigestLimits_s2_ok K) (subR_of h)
theorem law01_DigestLimits_s3_ok (K : Nat) : StmtNOk prog [(2, .sl), (9, .ptr), (10, .ptr)] [(112, .bool)] [(78, 113)] (fun x w => law01_DigestLimits_s3 K x.1 x.2.1 x.2.2.1 w) (cd (bodyOf f16) [1, 1, 1, 1, 1, 1, 1, 1, 1, 1, 1, 0, 0]) :=
    mk_stmtN (O := tabL []) (root := (bodyOf f16)) (π := [1, 1, 1, 1, 1, 1, 1, 1, 1, 1, 1, 0, 0]) (Li := [(2, .sl), (9, .ptr), (10, .ptr)]) (Lo := [(112, .bool)]) (S := (fun x w => law01_DigestLimits_s3 K x.1 x.2.1 x.2.2.1 w)) (law01_DigestLimits_Eok K) (law01_DigestLimits_Rok K) rfl (Orc.nil _ _ _) (by kernel_rfl) (fun _ _ => by kernel_rfl)
noncomputable def law01_DigestLimits_s3_se (K : Nat) : SE := stmtN [(2, .sl), (9, .ptr), (10, .ptr)] [(112, .bool)] [(78, 113)] (fun x w => law01_DigestLimits_s3 K x.1 x.2.1 x.2.2.1 w)
theorem law01_DigestLimits_s3_se_ok (K : Nat) (R : Rg) (h : subRB [(78, 113)] R = true) : (law01_DigestLimits_s3_se K).Ok prog R (cd (bodyOf f16) [1, 1, 1, 1, 1, 1, 1, 1, 1, 1, 1, 0, 0]) := stmtN_ok (Li := [(2, .sl), (9, .ptr), (10, .ptr)]) (Lo := [(112, .bool)]) (S := (fun x w => law01_DigestLimits_s3 K x.1 x.2.1 x.2.2.1 w)) (law01_DigestLimits_s3_ok K) (subR_of h)
theorem law01_DigestLimits_s4_ok (K : Nat) : StmtNOk prog [(9, .ptr), (10, .ptr)] [(128, .bool)] [(113, 129)] (fun x w => law01_DigestLimits_s4 K x.1 x.2.1 w) (cd (bodyOf f16) [1, 1, 1, 1, 1, 1, 1, 1, 1, 1, 1, 1, 0, 0]) :=
    mk_stmtN (O := tabL []) (root := (bodyOf f16)) (π := [1, 1, 1, 1, 1, 1, 1, 1, 1, 1, 1, 1, 0, 0]) (Li := [(9, .ptr), (10, .ptr)]) (Lo := [(128, .bool)]) (S := (fun x w => law01_DigestLimits_s4 K x.1 x.2.1 w)) (law01_DigestLimits_Eok K) (law01_DigestLimits_Rok K) rfl (Orc.nil _ _ _) (by kernel_rfl) (fun _ _ => by kernel_rfl)
noncomputable def law01_DigestLimits_s4_se (K : Nat) : SE := stmtN [(9, .ptr), (10, .ptr)] [(128, .bool)] [(113, 129)] (fun x w => law01_DigestLimits_s4 K x.1 x.2.1 w)
theorem law01_DigestLimits_s4_se_ok (K : Nat) (R : Rg) (h : subRB [(113, 129)] R = true) : (law01_DigestLimits_s4_se K).Ok prog R (cd (bodyOf f16) [1, 1, 1, 1, 1, 1, 1, 1, 1, 1, 1, 1, 0, 0]) := stmtN_ok (Li := [(9, .ptr), (10, .ptr)]) (Lo := [(128, .bool)]) (S := (fun x w => law01_DigestLimits_s4 K x.1 x.2.1 w)) (law01_DigestLimits_s4_ok K) (subR_of h)
theorem law01_DigestLimits_facts : FunFacts prog 16 f16 (bodyOf f16) [] [(0, 180)] := ⟨func16, by kernel_rfl, by kernel_rfl, by kernel_rfl, by kernel_rfl, by kernel_rfl⟩
theorem law01_DigestLimits_calls (K : Nat) (x : TT []) (w : World) (y : TR [.bool]) (w2 : World) (h : law01_DigestLimits K  w = some (y, w2)) : Calls prog 16 (encA [] x).toArray w (fun e w3 => e = .returned (resV (encR [.bool] y)) ∧ w3 = w2) :=
    mk_fun (O := tabL [([1, 1, 1, 0, 1], law01_DigestLimits_l0_se K), ([1, 1, 1, 1, 1, 1, 1, 0, 0], law01_DigestLimits_s1_se K), ([1, 1, 1, 1, 1, 1, 1, 1, 1, 1, 0, 0], law01_DigestLimits_s2_se K), ([1, 1, 1, 1, 1, 1, 1, 1, 1, 1, 1, 0, 0], law01_DigestLimits_s3_se K), ([1, 1, 1, 1, 1, 1, 1, 1, 1, 1, 1, 1, 0, 0], law01_DigestLimits_s4_se K)]) (Lp := []) (Rt := [.bool]) (S := (fun x w => law01_DigestLimits K  w)) (law01_DigestLimits_Eok K) (law01_DigestLimits_Rok K) rfl law01_DigestLimits_facts (Orc.cons (by kernel_rfl) (law01_DigestLimits_l0_se_ok K [(0, 180)] (by kernel_rfl)) (Orc.cons (by kernel_rfl) (law01_DigestLimits_s1_se_ok K [(0, 180)] (by kernel_rfl)) (Orc.cons (by kernel_rfl) (law01_DigestLimits_s2_se_ok K [(0, 180)] (by kernel_rfl)) (Orc.cons (by kernel_rfl) (law01_DigestLimits_s3_se_ok K [(0, 180)] (by kernel_rfl)) (Orc.cons (by kernel_rfl) (law01_DigestLimits_s4_se_ok K [(0, 180)] (by kernel_rfl)) (Orc.nil _ _ _)))))) (fun _ _ => by kernel_rfl) x w y w2 h
noncomputable def law01_DigestLimits_ce (K : Nat) : CE := funE [] [.bool] (fun x w => law01_DigestLimits K  w)
theorem law01_DigestLimits_ok (K : Nat) : (law01_DigestLimits_ce K).Ok prog 16 := funE_ok (Rt := [.bool]) (S := (fun x w => law01_DigestLimits K  w)) law01_DigestLimits_facts fun x w y w2 h => law01_DigestLimits_calls K x w y w2 h

noncomputable def law01_hexed_E (K : Nat) : List (Nat × CE) := [(24, digest_Sum_ce K), (48, digest_Hex_ce K)]
theorem law01_hexed_Eok (K : Nat) : Env.Ok prog (tab (law01_hexed_E K)) := (Env.cons (digest_Sum_ok K) (Env.cons (digest_Hex_ok K) (Env.nil _)))
noncomputable def law01_hexed_R (K : Nat) : List (Nat × RE) := [(26, law01_num_re)]
theorem law01_hexed_Rok (K : Nat) : REnv.Ok prog (tab (law01_hexed_R K)) := (REnv.cons (law01_num_ok) (REnv.nil _))
/-- coffer/cofferlaw01.hexed -/
noncomputable def law01_hexed (K : Nat) (hash0 : Int) (parts1 : Sl) (w : World) : Option ((ByteArray × Unit) × World) :=
  bnd (digest_Sum K hash0 parts1 w) fun r_1 w_2 =>
  (law01_num r_1.2.1).bind fun r_3 =>
  if (r_3.1 != 0) = true then (some ((str0, ()), w_2)) else (bnd (digest_Hex K r_1.1 w_2) fun r_4 w_5 =>
  some ((r_4.1, ()), w_5))
theorem law01_hexed_facts : FunFacts prog 60 f60 (bodyOf f60) [(0, .int .i64), (1, .sl)] [(0, 18)] := ⟨func60, by kernel_rfl, by kernel_rfl, by kernel_rfl, by kernel_rfl, by kernel_rfl⟩
theorem law01_hexed_calls (K : Nat) (x : TT [(0, .int .i64), (1, .sl)]) (w : World) (y : TR [.str]) (w2 : World) (h : law01_hexed K x.1 x.2.1 w = some (y, w2)) : Calls prog 60 (encA [(0, .int .i64), (1, .sl)] x).toArray w (fun e w3 => e = .returned (resV (encR [.str] y)) ∧ w3 = w2) :=
    mk_fun (O := tabL []) (Lp := [(0, .int .i64), (1, .sl)]) (Rt := [.str]) (S := (fun x w => law01_hexed K x.1 x.2.1 w)) (law01_hexed_Eok K) (law01_hexed_Rok K) rfl law01_hexed_facts (Orc.nil _ _ _) (fun _ _ => by kernel_rfl) x w y w2 h
noncomputable def law01_hexed_ce (K : Nat) : CE := funE [(0, .int .i64), (1, .sl)] [.str] (fun x w => law01_hexed K x.1 x.2.1 w)
theorem law01_hexed_ok (K : Nat) : (law01_hexed_ce K).Ok prog 60 := funE_ok (Rt := [.str]) (S := (fun x w => law01_hexed K x.1 x.2.1 w)) law01_hexed_facts fun x w y w2 h => law01_hexed_calls K x w y w2 h

end Go.Sh

/- What functions of the program do, as Lean functions; that the machine does just that. Printed by shal.py, a program of this claim's writer. -/
set_option maxRecDepth 100000
set_option linter.unusedVariables false
namespace Go.Sh
open Go.Fw Go.Proofs.Tryd

noncomputable def law01_DigestVectors_E (K : Nat) : List (Nat × CE) := [(60, law01_hexed_ce K), (31, digest_Code_ce K), (48, digest_Hex_ce K), (35, digest_Stretch_ce K), (59, digest_Base64_ce K)]
theorem law01_DigestVectors_Eok (K : Nat) : Env.Ok prog (tab (law01_DigestVectors_E K)) := (Env.cons (law01_hexed_ok K) (Env.cons (digest_Code_ok K) (Env.cons (digest_Hex_ok K) (Env.cons (digest_Stretch_ok K) (Env.cons (digest_Base64_ok K) (Env.nil _))))))
noncomputable def law01_DigestVectors_R (K : Nat) : List (Nat × RE) := [(26, law01_num_re)]
theorem law01_DigestVectors_Rok (K : Nat) : REnv.Ok prog (tab (law01_DigestVectors_R K)) := (REnv.cons (law01_num_ok) (REnv.nil _))
noncomputable def law01_DigestVectors_s0 (K : Nat) (abc1 : Sl) (w : World) : Option ((Bool × Unit) × World) :=
  bnd (bldS prog 24 1 #[(0, (.slice abc1.a abc1.len abc1.cap))] w) fun s_11 w_12 =>
  bnd (law01_hexed K 224 s_11 w_12) fun r_13 w_14 =>
  if (!(r_13.1.toList == str5.toList)) = true then (some ((true, ()), w_14)) else (bnd (bldS prog 24 1 #[(0, (.slice abc1.a abc1.len abc1.cap))] w_14) fun s_15 w_16 =>
  bnd (law01_hexed K 256 s_15 w_16) fun r_17 w_18 =>
  some (((!(r_17.1.toList == str6.toList)), ()), w_18))
noncomputable def law01_DigestVectors_s1 (K : Nat) (long2 : Sl) (w : World) : Option ((Bool × Unit) × World) :=
  bnd (bldS prog 24 1 #[(0, (.slice long2.a long2.len long2.cap))] w) fun s_21 w_22 =>
  bnd (law01_hexed K 256 s_21 w_22) fun r_23 w_24 =>
  if (!(r_23.1.toList == str7.toList)) = true then (some ((true, ()), w_24)) else (bnd (law01_hexed K 256 ⟨none, 0, 0⟩ w_24) fun r_25 w_26 =>
  some (((!(r_25.1.toList == str8.toList)), ()), w_26))
noncomputable def law01_DigestVectors_s2 (K : Nat) (c3 : Sl) (e4 : Int) (w : World) : Option ((Bool × Unit) × World) :=
  (law01_num e4).bind fun r_56 =>
  if (r_56.1 != 0) = true then (some ((true, ()), w)) else (bnd (digest_Hex K c3 w) fun r_57 w_58 =>
  some (((!(r_57.1.toList == str11.toList)), ()), w_58))
noncomputable def law01_DigestVectors_s3 (K : Nat) (e4 : Int) (s5 : Sl) (w : World) : Option ((Bool × Unit) × World) :=
  (law01_num e4).bind fun r_73 =>
  if (r_73.1 != 0) = true then (some ((true, ()), w)) else (bnd (digest_Hex K s5 w) fun r_74 w_75 =>
  some (((!(r_74.1.toList == str12.toList)), ()), w_75))
/-- coffer/cofferlaw01.DigestVectors -/
noncomputable def law01_DigestVectors (K : Nat)  (w : World) : Option ((Bool × Unit) × World) :=
  bnd (bldS prog 25 3 #[(0, (.int .u8 97)), (1, (.int .u8 98)), (2, (.int .u8 99))] w) fun s_1 w_2 =>
  bnd (cnv prog 25 25 (.slice s_1.a s_1.len s_1.cap) w_2) fun c_3 w_4 =>
  (asS c_3).bind fun v_5 =>
  bnd (bldS prog 25 56 #[(0, (.int .u8 97)), (1, (.int .u8 98)), (2, (.int .u8 99)), (3, (.int .u8 100)), (4, (.int .u8 98)), (5, (.int .u8 99)), (6, (.int .u8 100)), (7, (.int .u8 101)), (8, (.int .u8 99)), (9, (.int .u8 100)), (10, (.int .u8 101)), (11, (.int .u8 102)), (12, (.int .u8 100)), (13, (.int .u8 101)), (14, (.int .u8 102)), (15, (.int .u8 103)), (16, (.int .u8 101)), (17, (.int .u8 102)), (18, (.int .u8 103)), (19, (.int .u8 104)), (20, (.int .u8 102)), (21, (.int .u8 103)), (22, (.int .u8 104)), (23, (.int .u8 105)), (24, (.int .u8 103)), (25, (.int .u8 104)), (26, (.int .u8 105)), (27, (.int .u8 106)), (28, (.int .u8 104)), (29, (.int .u8 105)), (30, (.int .u8 106)), (31, (.int .u8 107)), (32, (.int .u8 105)), (33, (.int .u8 106)), (34, (.int .u8 107)), (35, (.int .u8 108)), (36, (.int .u8 106)), (37, (.int .u8 107)), (38, (.int .u8 108)), (39, (.int .u8 109)), (40, (.int .u8 107)), (41, (.int .u8 108)), (42, (.int .u8 109)), (43, (.int .u8 110)), (44, (.int .u8 108)), (45, (.int .u8 109)), (46, (.int .u8 110)), (47, (.int .u8 111)), (48, (.int .u8 109)), (49, (.int .u8 110)), (50, (.int .u8 111)), (51, (.int .u8 112)), (52, (.int .u8 110)), (53, (.int .u8 111)), (54, (.int .u8 112)), (55, (.int .u8 113))] w_4) fun s_6 w_7 =>
  bnd (cnv prog 25 25 (.slice s_6.a s_6.len s_6.cap) w_7) fun c_8 w_9 =>
  (asS c_8).bind fun v_10 =>
  bnd (law01_DigestVectors_s0 K v_5 w_9) fun y_19 w_20 =>
  if y_19.1 = true then (some ((false, ()), w_20)) else (bnd (law01_DigestVectors_s1 K v_10 w_20) fun y_27 w_28 =>
  if y_27.1 = true then (some ((false, ()), w_28)) else (bnd (bldS prog 24 1 #[(0, (.slice v_5.a v_5.len v_5.cap))] w_28) fun s_29 w_30 =>
  bnd (law01_hexed K 384 s_29 w_30) fun r_31 w_32 =>
  if (!(r_31.1.toList == str9.toList)) = true then (some ((false, ()), w_32)) else (bnd (bldS prog 24 1 #[(0, (.slice v_5.a v_5.len v_5.cap))] w_32) fun s_33 w_34 =>
  bnd (law01_hexed K 512 s_33 w_34) fun r_35 w_36 =>
  if (!(r_35.1.toList == str10.toList)) = true then (some ((false, ()), w_36)) else (bnd (bldS prog 25 4 #[(0, (.int .u8 74)), (1, (.int .u8 101)), (2, (.int .u8 102)), (3, (.int .u8 101))] w_36) fun s_37 w_38 =>
  bnd (cnv prog 25 25 (.slice s_37.a s_37.len s_37.cap) w_38) fun c_39 w_40 =>
  (asS c_39).bind fun v_41 =>
  bnd (bldS prog 25 16 #[(0, (.int .u8 119)), (1, (.int .u8 104)), (2, (.int .u8 97)), (3, (.int .u8 116)), (4, (.int .u8 32)), (5, (.int .u8 100)), (6, (.int .u8 111)), (7, (.int .u8 32)), (8, (.int .u8 121)), (9, (.int .u8 97)), (10, (.int .u8 32)), (11, (.int .u8 119)), (12, (.int .u8 97)), (13, (.int .u8 110)), (14, (.int .u8 116)), (15, (.int .u8 32))] w_40) fun s_42 w_43 =>
  bnd (cnv prog 25 25 (.slice s_42.a s_42.len s_42.cap) w_43) fun c_44 w_45 =>
  (asS c_44).bind fun v_46 =>
  bnd (bldS prog 25 12 #[(0, (.int .u8 102)), (1, (.int .u8 111)), (2, (.int .u8 114)), (3, (.int .u8 32)), (4, (.int .u8 110)), (5, (.int .u8 111)), (6, (.int .u8 116)), (7, (.int .u8 104)), (8, (.int .u8 105)), (9, (.int .u8 110)), (10, (.int .u8 103)), (11, (.int .u8 63))] w_45) fun s_47 w_48 =>
  bnd (cnv prog 25 25 (.slice s_47.a s_47.len s_47.cap) w_48) fun c_49 w_50 =>
  (asS c_49).bind fun v_51 =>
  bnd (bldS prog 24 2 #[(0, (.slice v_46.a v_46.len v_46.cap)), (1, (.slice v_51.a v_51.len v_51.cap))] w_50) fun s_52 w_53 =>
  bnd (digest_Code K 256 v_41 s_52 w_53) fun r_54 w_55 =>
  bnd (law01_DigestVectors_s2 K r_54.1 r_54.2.1 w_55) fun y_59 w_60 =>
  if y_59.1 = true then (some ((false, ()), w_60)) else (bnd (bldS prog 25 8 #[(0, (.int .u8 112)), (1, (.int .u8 97)), (2, (.int .u8 115)), (3, (.int .u8 115)), (4, (.int .u8 119)), (5, (.int .u8 111)), (6, (.int .u8 114)), (7, (.int .u8 100))] w_60) fun s_61 w_62 =>
  bnd (cnv prog 25 25 (.slice s_61.a s_61.len s_61.cap) w_62) fun c_63 w_64 =>
  (asS c_63).bind fun v_65 =>
  bnd (bldS prog 25 4 #[(0, (.int .u8 115)), (1, (.int .u8 97)), (2, (.int .u8 108)), (3, (.int .u8 116))] w_64) fun s_66 w_67 =>
  bnd (cnv prog 25 25 (.slice s_66.a s_66.len s_66.cap) w_67) fun c_68 w_69 =>
  (asS c_68).bind fun v_70 =>
  bnd (digest_Stretch K 256 v_65 v_70 2 32 w_69) fun r_71 w_72 =>
  bnd (law01_DigestVectors_s3 K r_71.2.1 r_71.1 w_72) fun y_76 w_77 =>
  if y_76.1 = true then (some ((false, ()), w_77)) else (bnd (bldS prog 25 6 #[(0, (.int .u8 102)), (1, (.int .u8 111)), (2, (.int .u8 111)), (3, (.int .u8 98)), (4, (.int .u8 97)), (5, (.int .u8 114))] w_77) fun s_78 w_79 =>
  bnd (cnv prog 25 25 (.slice s_78.a s_78.len s_78.cap) w_79) fun c_80 w_81 =>
  (asS c_80).bind fun v_82 =>
  bnd (digest_Base64 K v_82 w_81) fun r_83 w_84 =>
  if (r_83.1.toList == str13.toList) = true then (bnd (bldS prog 25 5 #[(0, (.int .u8 102)), (1, (.int .u8 111)), (2, (.int .u8 111)), (3, (.int .u8 98)), (4, (.int .u8 97))] w_84) fun s_85 w_86 =>
  bnd (cnv prog 25 25 (.slice s_85.a s_85.len s_85.cap) w_86) fun c_87 w_88 =>
  (asS c_87).bind fun v_89 =>
  bnd (digest_Base64 K v_89 w_88) fun r_90 w_91 =>
  if (r_90.1.toList == str14.toList) = true then (bnd (bldS prog 25 4 #[(0, (.int .u8 102)), (1, (.int .u8 111)), (2, (.int .u8 111)), (3, (.int .u8 98))] w_91) fun s_92 w_93 =>
  bnd (cnv prog 25 25 (.slice s_92.a s_92.len s_92.cap) w_93) fun c_94 w_95 =>
  (asS c_94).bind fun v_96 =>
  bnd (digest_Base64 K v_96 w_95) fun r_97 w_98 =>
  some (((r_97.1.toList == str15.toList), ()), w_98)) else (some ((false, ()), w_91))) else (some ((false, ()), w_84))))))))
theorem law01_DigestVectors_s0_ok (K : Nat) : StmtNOk prog [(1, .sl)] [(19, .bool)] [(10, 20)] (fun x w => law01_DigestVectors_s0 K x.1 w) (cd (bodyOf f17) [1, 1, 1, 0, 0]) :=
    mk_stmtN (O := tabL []) (root := (bodyOf f17)) (π := [1, 1, 1, 0, 0]) (Li := [(1, .sl)]) (Lo := [(19, .bool)]) (S := (fun x w => law01_DigestVectors_s0 K x.1 w)) (law01_DigestVectors_Eok K) (law01_DigestVectors_Rok K) rfl (Orc.nil _ _ _) (by kernel_rfl) (fun _ _ => by kernel_rfl)
noncomputable def law01_DigestVectors_s0_se (K : Nat) : SE := stmtN [(1, .sl)] [(19, .bool)] [(10, 20)] (fun x w => law01_DigestVectors_s0 K x.1 w)
theorem law01_DigestVectors_s0_se_ok (K : Nat) (R : Rg) (h : subRB [(10, 20)] R = true) : (law01_DigestVectors_s0_se K).Ok prog R (cd (bodyOf f17) [1, 1, 1, 0, 0]) := stmtN_ok (Li := [(1, .sl)]) (Lo := [(19, .bool)]) (S := (fun x w => law01_DigestVectors_s0 K x.1 w)) (law01_DigestVectors_s0_ok K) (subR_of h)
theorem law01_DigestVectors_s1_ok (K : Nat) : StmtNOk prog [(2, .sl)] [(27, .bool)] [(20, 28)] (fun x w => law01_DigestVectors_s1 K x.1 w) (cd (bodyOf f17) [1, 1, 1, 1, 0, 0]) :=
    mk_stmtN (O := tabL []) (root := (bodyOf f17)) (π := [1, 1, 1, 1, 0, 0]) (Li := [(2, .sl)]) (Lo := [(27, .bool)]) (S := (fun x w => law01_DigestVectors_s1 K x.1 w)) (law01_DigestVectors_Eok K) (law01_DigestVectors_Rok K) rfl (Orc.nil _ _ _) (by kernel_rfl) (fun _ _ => by kernel_rfl)
noncomputable def law01_DigestVectors_s1_se (K : Nat) : SE := stmtN [(2, .sl)] [(27, .bool)] [(20, 28)] (fun x w => law01_DigestVectors_s1 K x.1 w)
theorem law01_DigestVectors_s1_se_ok (K : Nat) (R : Rg) (h : subRB [(20, 28)] R = true) : (law01_DigestVectors_s1_se K).Ok prog R (cd (bodyOf f17) [1, 1, 1, 1, 0, 0]) := stmtN_ok (Li := [(2, .sl)]) (Lo := [(27, .bool)]) (S := (fun x w => law01_DigestVectors_s1 K x.1 w)) (law01_DigestVectors_s1_ok K) (subR_of h)
theorem law01_DigestVectors_s2_ok (K : Nat) : StmtNOk prog [(3, .sl), (4, .int .i64)] [(54, .bool)] [(47, 55)] (fun x w => law01_DigestVectors_s2 K x.1 x.2.1 w) (cd (bodyOf f17) [1, 1, 1, 1, 1, 1, 1, 1, 0, 0]) :=
    mk_stmtN (O := tabL []) (root := (bodyOf f17)) (π := [1, 1, 1, 1, 1, 1, 1, 1, 0, 0]) (Li := [(3, .sl), (4, .int .i64)]) (Lo := [(54, .bool)]) (S := (fun x w => law01_DigestVectors_s2 K x.1 x.2.1 w)) (law01_DigestVectors_Eok K) (law01_DigestVectors_Rok K) rfl (Orc.nil _ _ _) (by kernel_rfl) (fun _ _ => by kernel_rfl)
noncomputable def law01_DigestVectors_s2_se (K : Nat) : SE := stmtN [(3, .sl), (4, .int .i64)] [(54, .bool)] [(47, 55)] (fun x w => law01_DigestVectors_s2 K x.1 x.2.1 w)
theorem law01_DigestVectors_s2_se_ok (K : Nat) (R : Rg) (h : subRB [(47, 55)] R = true) : (law01_DigestVectors_s2_se K).Ok prog R (cd (bodyOf f17) [1, 1, 1, 1, 1, 1, 1, 1, 0, 0]) := stmtN_ok (Li := [(3, .sl), (4, .int .i64)]) (Lo := [(54, .bool)]) (S := (fun x w => law01_DigestVectors_s2 K x.1 x.2.1 w)) (law01_DigestVectors_s2_ok K) (subR_of h)
theorem law01_DigestVectors_s3_ok (K : Nat) : StmtNOk prog [(4, .int .i64), (5, .sl)] [(70, .bool)] [(63, 71)] (fun x w => law01_DigestVectors_s3 K x.1 x.2.1 w) (cd (bodyOf f17) [1, 1, 1, 1, 1, 1, 1, 1, 1, 1, 0, 0]) :=
    mk_stmtN (O := tabL []) (root := (bodyOf f17)) (π := [1, 1, 1, 1, 1, 1, 1, 1, 1, 1, 0, 0]) (Li := [(4, .int .i64), (5, .sl)]) (Lo := [(70, .bool)]) (S := (fun x w => law01_DigestVectors_s3 K x.1 x.2.1 w)) (law01_DigestVectors_Eok K) (law01_DigestVectors_Rok K) rfl (Orc.nil _ _ _) (by kernel_rfl) (fun _ _ => by kernel_rfl)
noncomputable def law01_DigestVectors_s3_se (K : Nat) : SE := stmtN [(4, .int .i64), (5, .sl)] [(70, .bool)] [(63, 71)] (fun x w => law01_DigestVectors_s3 K x.1 x.2.1 w)
theorem law01_DigestVectors_s3_se_ok (K : Nat) (R : Rg) (h : subRB [(63, 71)] R = true) : (law01_DigestVectors_s3_se K).Ok prog R (cd (bodyOf f17) [1, 1, 1, 1, 1, 1, 1, 1, 1, 1, 0, 0]) := stmtN_ok (Li := [(4, .int .i64), (5, .sl)]) (Lo := [(70, .bool)]) (S := (fun x w => law01_DigestVectors_s3 K x.1 x.2.1 w)) (law01_DigestVectors_s3_ok K) (subR_of h)
theorem law01_DigestVectors_facts : FunFacts prog 17 f17 (bodyOf f17) [] [(0, 87)] := ⟨func17, by kernel_rfl, by kernel_rfl, by kernel_rfl, by kernel_rfl, by kernel_rfl⟩
theorem law01_DigestVectors_calls (K : Nat) (x : TT []) (w : World) (y : TR [.bool]) (w2 : World) (h : law01_DigestVectors K  w = some (y, w2)) : Calls prog 17 (encA [] x).toArray w (fun e w3 => e = .returned (resV (encR [.bool] y)) ∧ w3 = w2) :=
    mk_fun (O := tabL [([1, 1, 1, 0, 0], law01_DigestVectors_s0_se K), ([1, 1, 1, 1, 0, 0], law01_DigestVectors_s1_se K), ([1, 1, 1, 1, 1, 1, 1, 1, 0, 0], law01_DigestVectors_s2_se K), ([1, 1, 1, 1, 1, 1, 1, 1, 1, 1, 0, 0], law01_DigestVectors_s3_se K)]) (Lp := []) (Rt := [.bool]) (S := (fun x w => law01_DigestVectors K  w)) (law01_DigestVectors_Eok K) (law01_DigestVectors_Rok K) rfl law01_DigestVectors_facts (Orc.cons (by kernel_rfl) (law01_DigestVectors_s0_se_ok K [(0, 87)] (by kernel_rfl)) (Orc.cons (by kernel_rfl) (law01_DigestVectors_s1_se_ok K [(0, 87)] (by kernel_rfl)) (Orc.cons (by kernel_rfl) (law01_DigestVectors_s2_se_ok K [(0, 87)] (by kernel_rfl)) (Orc.cons (by kernel_rfl) (law01_DigestVectors_s3_se_ok K [(0, 87)] (by kernel_rfl)) (Orc.nil _ _ _))))) (fun _ _ => by kernel_rfl) x w y w2 h
noncomputable def law01_DigestVectors_ce (K : Nat) : CE := funE [] [.bool] (fun x w => law01_DigestVectors K  w)
theorem law01_DigestVectors_ok (K : Nat) : (law01_DigestVectors_ce K).Ok prog 17 := funE_ok (Rt := [.bool]) (S := (fun x w => law01_DigestVectors K  w)) law01_DigestVectors_facts fun x w y w2 h => law01_DigestVectors_calls K x w y w2 h

end Go.Sh
