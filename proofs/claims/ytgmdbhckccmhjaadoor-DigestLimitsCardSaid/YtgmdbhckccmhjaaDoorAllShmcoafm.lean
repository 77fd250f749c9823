/- Texts of this claim, put together: Sh6, Sh7 -/
import Derived.Test.YtgmdbhckccmhjaaDoorAllShocfidl
/- What functions of the program do, as Lean functions; that the machine does just that. Printed by shal.py, a program of this claim's writer. -/
set_option maxRecDepth 100000
set_option linter.unusedVariables false
namespace Go.Sh
open Go.Fw Go.Proofs.Tryd

noncomputable def digest_Extract_E (K : Nat) : List (Nat × CE) := [(31, digest_Code_ce K)]
theorem digest_Extract_Eok (K : Nat) : Env.Ok prog (tab (digest_Extract_E K)) := (Env.cons (digest_Code_ok K) (Env.nil _))
noncomputable def digest_Extract_R (K : Nat) : List (Nat × RE) := []
theorem digest_Extract_Rok (K : Nat) : REnv.Ok prog (tab (digest_Extract_R K)) := (REnv.nil _)
/-- coffer/digest.Extract -/
noncomputable def digest_Extract (K : Nat) (hash0 : Int) (salt1 : Sl) (secret2 : Sl) (w : World) : Option ((Sl × Int × Unit) × World) :=
  bnd (bldS prog 24 1 #[(0, (.slice secret2.a secret2.len secret2.cap))] w) fun s_1 w_2 =>
  bnd (digest_Code K hash0 salt1 s_1 w_2) fun r_3 w_4 =>
  some ((r_3.1, r_3.2.1, ()), w_4)
theorem digest_Extract_facts : FunFacts prog 37 f37 (bodyOf f37) [(0, .int .i64), (1, .sl), (2, .sl)] [(0, 15)] := ⟨func37, by kernel_rfl, by kernel_rfl, by kernel_rfl, by kernel_rfl, by kernel_rfl⟩
theorem digest_Extract_calls (K : Nat) (x : TT [(0, .int .i64), (1, .sl), (2, .sl)]) (w : World) (y : TR [.sl, .int .i64]) (w2 : World) (h : digest_Extract K x.1 x.2.1 x.2.2.1 w = some (y, w2)) : Calls prog 37 (encA [(0, .int .i64), (1, .sl), (2, .sl)] x).toArray w (fun e w3 => e = .returned (resV (encR [.sl, .int .i64] y)) ∧ w3 = w2) :=
    mk_fun (O := tabL []) (Lp := [(0, .int .i64), (1, .sl), (2, .sl)]) (Rt := [.sl, .int .i64]) (S := (fun x w => digest_Extract K x.1 x.2.1 x.2.2.1 w)) (digest_Extract_Eok K) (digest_Extract_Rok K) rfl digest_Extract_facts (Orc.nil _ _ _) (fun _ _ => by kernel_rfl) x w y w2 h
noncomputable def digest_Extract_ce (K : Nat) : CE := funE [(0, .int .i64), (1, .sl), (2, .sl)] [.sl, .int .i64] (fun x w => digest_Extract K x.1 x.2.1 x.2.2.1 w)
theorem digest_Extract_ok (K : Nat) : (digest_Extract_ce K).Ok prog 37 := funE_ok (Rt := [.sl, .int .i64]) (S := (fun x w => digest_Extract K x.1 x.2.1 x.2.2.1 w)) digest_Extract_facts fun x w y w2 h => digest_Extract_calls K x w y w2 h

noncomputable def ref01_Extract_E (K : Nat) : List (Nat × CE) := [(32, ref01_Code_ce K)]
theorem ref01_Extract_Eok (K : Nat) : Env.Ok prog (tab (ref01_Extract_E K)) := (Env.cons (ref01_Code_ok K) (Env.nil _))
noncomputable def ref01_Extract_R (K : Nat) : List (Nat × RE) := []
theorem ref01_Extract_Rok (K : Nat) : REnv.Ok prog (tab (ref01_Extract_R K)) := (REnv.nil _)
/-- coffer/cofferref01.Extract -/
noncomputable def ref01_Extract (K : Nat) (hash0 : Int) (salt1 : Sl) (secret2 : Sl) (w : World) : Option ((Sl × Unit) × World) :=
  bnd (ref01_Code K hash0 salt1 secret2 w) fun r_1 w_2 =>
  some ((r_1.1, ()), w_2)
theorem ref01_Extract_facts : FunFacts prog 38 f38 (bodyOf f38) [(0, .int .i64), (1, .sl), (2, .sl)] [(0, 11)] := ⟨func38, by kernel_rfl, by kernel_rfl, by kernel_rfl, by kernel_rfl, by kernel_rfl⟩
theorem ref01_Extract_calls (K : Nat) (x : TT [(0, .int .i64), (1, .sl), (2, .sl)]) (w : World) (y : TR [.sl]) (w2 : World) (h : ref01_Extract K x.1 x.2.1 x.2.2.1 w = some (y, w2)) : Calls prog 38 (encA [(0, .int .i64), (1, .sl), (2, .sl)] x).toArray w (fun e w3 => e = .returned (resV (encR [.sl] y)) ∧ w3 = w2) :=
    mk_fun (O := tabL []) (Lp := [(0, .int .i64), (1, .sl), (2, .sl)]) (Rt := [.sl]) (S := (fun x w => ref01_Extract K x.1 x.2.1 x.2.2.1 w)) (ref01_Extract_Eok K) (ref01_Extract_Rok K) rfl ref01_Extract_facts (Orc.nil _ _ _) (fun _ _ => by kernel_rfl) x w y w2 h
noncomputable def ref01_Extract_ce (K : Nat) : CE := funE [(0, .int .i64), (1, .sl), (2, .sl)] [.sl] (fun x w => ref01_Extract K x.1 x.2.1 x.2.2.1 w)
theorem ref01_Extract_ok (K : Nat) : (ref01_Extract_ce K).Ok prog 38 := funE_ok (Rt := [.sl]) (S := (fun x w => ref01_Extract K x.1 x.2.1 x.2.2.1 w)) ref01_Extract_facts fun x w y w2 h => ref01_Extract_calls K x w y w2 h

noncomputable def digest_Expand_E (K : Nat) : List (Nat × CE) := [(18, digest_Size_ce), (66, digest_key_ce K), (67, digest_keyed_code_ce K)]
theorem digest_Expand_Eok (K : Nat) : Env.Ok prog (tab (digest_Expand_E K)) := (Env.cons (digest_Size_ok) (Env.cons (digest_key_ok K) (Env.cons (digest_keyed_code_ok K) (Env.nil _))))
noncomputable def digest_Expand_R (K : Nat) : List (Nat × RE) := []
theorem digest_Expand_Rok (K : Nat) : REnv.Ok prog (tab (digest_Expand_R K)) := (REnv.nil _)
noncomputable def digest_Expand_s1 (K : Nat) (prk1 : Sl) (info2 : Sl) (w : World) : Option ((Bool × Unit) × World) :=
  if (decide (((prk1.len : Nat) : Int) > 33554432)) = true then (some ((true, ()), w)) else (some (((decide (((info2.len : Nat) : Int) > 33554367)), ()), w))
noncomputable def digest_Expand_s0 (K : Nat) (prk1 : Sl) (info2 : Sl) (n3 : Int) (size10 : Int) (w : World) : Option ((Out (Unit) (Sl × Int × Unit)) × World) :=
  if (size10 == 0) = true then (some (.ret (⟨none, 0, 0⟩, 10, ()), w)) else (if (decide (((prk1.len : Nat) : Int) < size10)) = true then (some (.ret (⟨none, 0, 0⟩, 15, ()), w)) else (bnd (digest_Expand_s1 K prk1 info2 w) fun y_3 w_4 =>
  if y_3.1 = true then (some (.ret (⟨none, 0, 0⟩, 4, ()), w_4)) else (if (decide (n3 < 1)) = true then (some (.ret (⟨none, 0, 0⟩, 12, ()), w_4)) else (if (decide (n3 > (IntKind.i64.wrap (255 * size10)))) = true then (some (.ret (⟨none, 0, 0⟩, 12, ()), w_4)) else (some (.norm (), w_4))))))
noncomputable def digest_Expand_l2_b (K : Nat) (rec : Sl → Int → Addr → Sl → Sl → Int → World → Option ((Sl × Unit) × World)) (info2 : Sl) (n3 : Int) (m11 : Addr) (out13 : Sl) (t14 : Sl) (i15 : Int) (w : World) : Option ((Sl × Unit) × World) :=
  if (decide (((out13.len : Nat) : Int) < n3)) = true then ((ldA 284 m11 w).bind fun v_13 =>
  bnd (bldS prog 25 1 #[(0, (.int .u8 i15))] w) fun s_14 w_15 =>
  bnd (bldS prog 24 3 #[(0, (.slice t14.a t14.len t14.cap)), (1, (.slice info2.a info2.len info2.cap)), (2, (.slice s_14.a s_14.len s_14.cap))] w_15) fun s_16 w_17 =>
  bnd (digest_keyed_code K v_13 s_16 w_17) fun r_18 w_19 =>
  bnd (apd prog 25 25 (.slice out13.a out13.len out13.cap) (.slice r_18.1.a r_18.1.len r_18.1.cap) w_19) fun s_20 w_21 =>
  rec info2 n3 m11 s_20 r_18.1 (IntKind.u8.wrap (i15 + 1)) w_21) else (some ((out13, ()), w))
noncomputable def digest_Expand_l2 (K : Nat) (n : Nat) : Sl → Int → Addr → Sl → Sl → Int → World → Option ((Sl × Unit) × World) := iter (fun _ _ _ _ _ _ _ => none) (digest_Expand_l2_b K) n
/-- coffer/digest.Expand -/
noncomputable def digest_Expand (K : Nat) (hash0 : Int) (prk1 : Sl) (info2 : Sl) (n3 : Int) (w : World) : Option ((Sl × Int × Unit) × World) :=
  bnd (digest_Size hash0 w) fun r_1 w_2 =>
  bnd (digest_Expand_s0 K prk1 info2 n3 r_1.1 w_2) fun y_5 w_6 =>
  (match y_5 with
  | .norm z_7n => (bnd (digest_key K hash0 prk1 w_6) fun r_8 w_9 =>
  bnd (newB z89 89 w_9) fun m_10 w_11 =>
  if (r_8.1).size = 284 then ((stA m_10 r_8.1 w_11).bind fun w_12 =>
  bnd (digest_Expand_l2 K K info2 n3 m_10 ⟨none, 0, 0⟩ ⟨none, 0, 0⟩ 1 w_12) fun y_22 w_23 =>
  if (0 : Int) ≤ n3 ∧ n3 ≤ ((y_22.1.cap : Nat) : Int) then (if (0 : Int) ≤ n3 ∧ n3 ≤ (((Int.toNat (n3)) : Nat) : Int) then (some ((⟨(sla y_22.1.a 0 (Int.toNat (n3)) 1), ((Int.toNat (n3)) - 0), ((Int.toNat (n3)) - 0)⟩, 0, ()), w_23)) else none) else none) else none)
  | .ret z_7r => (some ((z_7r.1, z_7r.2.1, ()), w_6)))
theorem digest_Expand_s1_ok (K : Nat) : StmtNOk prog [(1, .sl), (2, .sl)] [(26, .bool)] [(26, 35)] (fun x w => digest_Expand_s1 K x.1 x.2.1 w) (cd (bodyOf f53) [1, 1, 0, 0, 1, 1, 1, 1, 0]) :=
    mk_stmtN (O := tabL []) (root := (bodyOf f53)) (π := [1, 1, 0, 0, 1, 1, 1, 1, 0]) (Li := [(1, .sl), (2, .sl)]) (Lo := [(26, .bool)]) (S := (fun x w => digest_Expand_s1 K x.1 x.2.1 w)) (digest_Expand_Eok K) (digest_Expand_Rok K) rfl (Orc.nil _ _ _) (by kernel_rfl) (fun _ _ => by kernel_rfl)
noncomputable def digest_Expand_s1_se (K : Nat) : SE := stmtN [(1, .sl), (2, .sl)] [(26, .bool)] [(26, 35)] (fun x w => digest_Expand_s1 K x.1 x.2.1 w)
theorem digest_Expand_s1_se_ok (K : Nat) (R : Rg) (h : subRB [(26, 35)] R = true) : (digest_Expand_s1_se K).Ok prog R (cd (bodyOf f53) [1, 1, 0, 0, 1, 1, 1, 1, 0]) := stmtN_ok (Li := [(1, .sl), (2, .sl)]) (Lo := [(26, .bool)]) (S := (fun x w => digest_Expand_s1 K x.1 x.2.1 w)) (digest_Expand_s1_ok K) (subR_of h)
theorem digest_Expand_s0_ok (K : Nat) : StmtOk prog [(1, .sl), (2, .sl), (3, .int .i64), (10, .int .i64)] [] [(8, .sl), (9, .int .i64)] [(8, 10), (18, 44)] (fun x w => digest_Expand_s0 K x.1 x.2.1 x.2.2.1 x.2.2.2.1 w) (cd (bodyOf f53) [1, 1, 0]) :=
    mk_stmt (O := tabL [([1, 1, 0, 0, 1, 1, 1, 1, 0], digest_Expand_s1_se K)]) (root := (bodyOf f53)) (π := [1, 1, 0]) (Li := [(1, .sl), (2, .sl), (3, .int .i64), (10, .int .i64)]) (Lo := []) (Lr := [(8, .sl), (9, .int .i64)]) (S := (fun x w => digest_Expand_s0 K x.1 x.2.1 x.2.2.1 x.2.2.2.1 w)) (digest_Expand_Eok K) (digest_Expand_Rok K) rfl (Orc.cons (by kernel_rfl) (digest_Expand_s1_se_ok K [(8, 10), (18, 44)] (by kernel_rfl)) (Orc.nil _ _ _)) (by kernel_rfl) (fun _ _ => by kernel_rfl)
noncomputable def digest_Expand_s0_se (K : Nat) : SE := stmt [(1, .sl), (2, .sl), (3, .int .i64), (10, .int .i64)] [] [(8, .sl), (9, .int .i64)] [(8, 10), (18, 44)] (fun x w => digest_Expand_s0 K x.1 x.2.1 x.2.2.1 x.2.2.2.1 w)
theorem digest_Expand_s0_se_ok (K : Nat) (R : Rg) (h : subRB [(8, 10), (18, 44)] R = true) : (digest_Expand_s0_se K).Ok prog R (cd (bodyOf f53) [1, 1, 0]) := stmt_ok (Li := [(1, .sl), (2, .sl), (3, .int .i64), (10, .int .i64)]) (Lo := []) (Lr := [(8, .sl), (9, .int .i64)]) (S := (fun x w => digest_Expand_s0 K x.1 x.2.1 x.2.2.1 x.2.2.2.1 w)) (digest_Expand_s0_ok K) (subR_of h)
theorem digest_Expand_l2_ok (K : Nat) (n : Nat) : StmtNOk prog [(2, .sl), (3, .int .i64), (11, .addr), (13, .sl), (14, .sl), (15, .int .u8)] [(13, .sl)] [(13, 16), (50, 66)] ((fun n x w => digest_Expand_l2 K n x.1 x.2.1 x.2.2.1 x.2.2.2.1 x.2.2.2.2.1 x.2.2.2.2.2.1 w) n) (.block 1 (.loop (cd (bodyOf f53) [1, 1, 1, 1, 1, 0, 1, 0, 0]))) :=
    mk_loopN (O := tabL []) (root := (bodyOf f53)) (π := [1, 1, 1, 1, 1, 0, 1, 0, 0]) (id := 1) (Li := [(2, .sl), (3, .int .i64), (11, .addr), (13, .sl), (14, .sl), (15, .int .u8)]) (Lo := [(13, .sl)]) (S := (fun n x w => digest_Expand_l2 K n x.1 x.2.1 x.2.2.1 x.2.2.2.1 x.2.2.2.2.1 x.2.2.2.2.2.1 w)) (body := cd (bodyOf f53) [1, 1, 1, 1, 1, 0, 1, 0, 0]) (digest_Expand_Eok K) (digest_Expand_Rok K) rfl (Orc.nil _ _ _) (by kernel_rfl) (fun _ _ => by kernel_rfl) (fun _ _ _ => by kernel_rfl) n
noncomputable def digest_Expand_l2_se (K : Nat) : SE := stmtN [(2, .sl), (3, .int .i64), (11, .addr), (13, .sl), (14, .sl), (15, .int .u8)] [(13, .sl)] [(13, 16), (50, 66)] (fun x w => digest_Expand_l2 K K x.1 x.2.1 x.2.2.1 x.2.2.2.1 x.2.2.2.2.1 x.2.2.2.2.2.1 w)
theorem digest_Expand_l2_se_ok (K : Nat) (R : Rg) (h : subRB [(13, 16), (50, 66)] R = true) : (digest_Expand_l2_se K).Ok prog R (.block 1 (.loop (cd (bodyOf f53) [1, 1, 1, 1, 1, 0, 1, 0, 0]))) := stmtN_ok (Li := [(2, .sl), (3, .int .i64), (11, .addr), (13, .sl), (14, .sl), (15, .int .u8)]) (Lo := [(13, .sl)]) (S := (fun x w => digest_Expand_l2 K K x.1 x.2.1 x.2.2.1 x.2.2.2.1 x.2.2.2.2.1 x.2.2.2.2.2.1 w)) (digest_Expand_l2_ok K K) (subR_of h)
theorem digest_Expand_facts : FunFacts prog 53 f53 (bodyOf f53) [(0, .int .i64), (1, .sl), (2, .sl), (3, .int .i64)] [(0, 70)] := ⟨func53, by kernel_rfl, by kernel_rfl, by kernel_rfl, by kernel_rfl, by kernel_rfl⟩
theorem digest_Expand_calls (K : Nat) (x : TT [(0, .int .i64), (1, .sl), (2, .sl), (3, .int .i64)]) (w : World) (y : TR [.sl, .int .i64]) (w2 : World) (h : digest_Expand K x.1 x.2.1 x.2.2.1 x.2.2.2.1 w = some (y, w2)) : Calls prog 53 (encA [(0, .int .i64), (1, .sl), (2, .sl), (3, .int .i64)] x).toArray w (fun e w3 => e = .returned (resV (encR [.sl, .int .i64] y)) ∧ w3 = w2) :=
    mk_fun (O := tabL [([1, 1, 0], digest_Expand_s0_se K), ([1, 1, 0, 0, 1, 1, 1, 1, 0], digest_Expand_s1_se K), ([1, 1, 1, 1, 1, 0, 1], digest_Expand_l2_se K)]) (Lp := [(0, .int .i64), (1, .sl), (2, .sl), (3, .int .i64)]) (Rt := [.sl, .int .i64]) (S := (fun x w => digest_Expand K x.1 x.2.1 x.2.2.1 x.2.2.2.1 w)) (digest_Expand_Eok K) (digest_Expand_Rok K) rfl digest_Expand_facts (Orc.cons (by kernel_rfl) (digest_Expand_s0_se_ok K [(0, 70)] (by kernel_rfl)) (Orc.cons (by kernel_rfl) (digest_Expand_s1_se_ok K [(0, 70)] (by kernel_rfl)) (Orc.cons (by kernel_rfl) (digest_Expand_l2_se_ok K [(0, 70)] (by kernel_rfl)) (Orc.nil _ _ _)))) (fun _ _ => by kernel_rfl) x w y w2 h
noncomputable def digest_Expand_ce (K : Nat) : CE := funE [(0, .int .i64), (1, .sl), (2, .sl), (3, .int .i64)] [.sl, .int .i64] (fun x w => digest_Expand K x.1 x.2.1 x.2.2.1 x.2.2.2.1 w)
theorem digest_Expand_ok (K : Nat) : (digest_Expand_ce K).Ok prog 53 := funE_ok (Rt := [.sl, .int .i64]) (S := (fun x w => digest_Expand K x.1 x.2.1 x.2.2.1 x.2.2.2.1 w)) digest_Expand_facts fun x w y w2 h => digest_Expand_calls K x w y w2 h

noncomputable def ref01_ExpandError_R : List (Nat × RE) := [(19, ref01_Size_re)]
theorem ref01_ExpandError_Rok : REnv.Ok prog (tab (ref01_ExpandError_R)) := (REnv.cons (ref01_Size_ok) (REnv.nil _))
noncomputable def ref01_ExpandError_s0 (prk1 : Int) (info2 : Int) : Option (Out (Bool × Unit) (Int × Unit)) :=
  if (decide (prk1 > 33554432)) = true then (some (.norm (true, ()))) else (some (.norm ((decide (info2 > 33554367)), ())))
/-- coffer/cofferref01.ExpandError -/
noncomputable def ref01_ExpandError (hash0 : Int) (prk1 : Int) (info2 : Int) (n3 : Int) : Option (Int × Unit) :=
  (ref01_Size hash0).bind fun r_1 =>
  if (r_1.1 == 0) = true then (some (10, ())) else (if (decide (prk1 < r_1.1)) = true then (some (15, ())) else ((ref01_ExpandError_s0 prk1 info2).bind fun y_2 =>
  (match y_2 with
  | .norm z_3n => (if z_3n.1 = true then (some (4, ())) else (if (decide (n3 < 1)) = true then (some (12, ())) else (if (decide (n3 > (IntKind.i64.wrap (255 * r_1.1)))) = true then (some (12, ())) else (some (0, ())))))
  | .ret z_3r => (some (z_3r.1, ())))))
theorem ref01_ExpandError_s0_ok : StmtQOk prog [(1, .int .i64), (2, .int .i64)] [(19, .bool)] [(8, .int .i64)] [(19, 26)] (fun x w => ref01_ExpandError_s0 x.1 x.2.1) (cd (bodyOf f70) [1, 1, 0, 0, 1, 1, 1, 1, 0]) :=
    mk_stmtQ (O := tabL []) (root := (bodyOf f70)) (π := [1, 1, 0, 0, 1, 1, 1, 1, 0]) (Li := [(1, .int .i64), (2, .int .i64)]) (Lo := [(19, .bool)]) (Lr := [(8, .int .i64)]) (S := (fun x w => ref01_ExpandError_s0 x.1 x.2.1)) (ref01_ExpandError_Rok) (OrcQ.nil _ _ _) (by kernel_rfl) (fun _ _ => by kernel_rfl)
noncomputable def ref01_ExpandError_s0_se : SQ := stmtQ [(1, .int .i64), (2, .int .i64)] [(19, .bool)] [(8, .int .i64)] [(19, 26)] (fun x w => ref01_ExpandError_s0 x.1 x.2.1)
theorem ref01_ExpandError_s0_se_ok (R : Rg) (h : subRB [(19, 26)] R = true) : (ref01_ExpandError_s0_se).Ok prog R (cd (bodyOf f70) [1, 1, 0, 0, 1, 1, 1, 1, 0]) := stmtQ_ok (Li := [(1, .int .i64), (2, .int .i64)]) (Lo := [(19, .bool)]) (Lr := [(8, .int .i64)]) (S := (fun x w => ref01_ExpandError_s0 x.1 x.2.1)) (ref01_ExpandError_s0_ok) (subR_of h)
theorem ref01_ExpandError_facts : FunFacts prog 70 f70 (bodyOf f70) [(0, .int .i64), (1, .int .i64), (2, .int .i64), (3, .int .i64)] [(0, 35)] := ⟨func70, by kernel_rfl, by kernel_rfl, by kernel_rfl, by kernel_rfl, by kernel_rfl⟩
theorem ref01_ExpandError_calls (x : TT [(0, .int .i64), (1, .int .i64), (2, .int .i64), (3, .int .i64)]) (w : World) (y : TR [.int .i64]) (h : ref01_ExpandError x.1 x.2.1 x.2.2.1 x.2.2.2.1 = some y) : Calls prog 70 (encA [(0, .int .i64), (1, .int .i64), (2, .int .i64), (3, .int .i64)] x).toArray w (fun e w3 => e = .returned (resV (encR [.int .i64] y)) ∧ w3 = w) :=
    mk_funQ (O := tabL [([1, 1, 0, 0, 1, 1, 1, 1, 0], ref01_ExpandError_s0_se)]) (Lp := [(0, .int .i64), (1, .int .i64), (2, .int .i64), (3, .int .i64)]) (Rt := [.int .i64]) (S := (fun x w => ref01_ExpandError x.1 x.2.1 x.2.2.1 x.2.2.2.1)) (ref01_ExpandError_Rok) ref01_ExpandError_facts (OrcQ.cons (by kernel_rfl) (ref01_ExpandError_s0_se_ok [(0, 35)] (by kernel_rfl)) (OrcQ.nil _ _ _)) (fun _ _ => by kernel_rfl) x w y h
noncomputable def ref01_ExpandError_re : RE := funR [(0, .int .i64), (1, .int .i64), (2, .int .i64), (3, .int .i64)] [.int .i64] (fun x w => ref01_ExpandError x.1 x.2.1 x.2.2.1 x.2.2.2.1)
theorem ref01_ExpandError_ok : (ref01_ExpandError_re).Ok prog 70 := funR_ok (Rt := [.int .i64]) (S := (fun x w => ref01_ExpandError x.1 x.2.1 x.2.2.1 x.2.2.2.1)) ref01_ExpandError_facts fun x w y h => ref01_ExpandError_calls x w y h

noncomputable def ref01_Expand_E (K : Nat) : List (Nat × CE) := [(32, ref01_Code_ce K)]
theorem ref01_Expand_Eok (K : Nat) : Env.Ok prog (tab (ref01_Expand_E K)) := (Env.cons (ref01_Code_ok K) (Env.nil _))
noncomputable def ref01_Expand_R (K : Nat) : List (Nat × RE) := []
theorem ref01_Expand_Rok (K : Nat) : REnv.Ok prog (tab (ref01_Expand_R K)) := (REnv.nil _)
noncomputable def ref01_Expand_l0_b (K : Nat) (rec : Int → Sl → Sl → Int → Sl → Sl → Int → World → Option ((Sl × Unit) × World)) (hash0 : Int) (prk1 : Sl) (info2 : Sl) (n3 : Int) (out9 : Sl) (t10 : Sl) (i11 : Int) (w : World) : Option ((Sl × Unit) × World) :=
  if (decide (((out9.len : Nat) : Int) < n3)) = true then (bnd (apd prog 25 25 (.slice none 0 0) (.slice t10.a t10.len t10.cap) w) fun s_1 w_2 =>
  bnd (apd prog 25 25 (.slice s_1.a s_1.len s_1.cap) (.slice info2.a info2.len info2.cap) w_2) fun s_3 w_4 =>
  bnd (bldS prog 25 1 #[(0, (.int .u8 (IntKind.u8.wrap i11)))] w_4) fun s_5 w_6 =>
  bnd (apd prog 25 25 (.slice s_3.a s_3.len s_3.cap) (.slice s_5.a s_5.len s_5.cap) w_6) fun s_7 w_8 =>
  bnd (ref01_Code K hash0 prk1 s_7 w_8) fun r_9 w_10 =>
  bnd (apd prog 25 25 (.slice out9.a out9.len out9.cap) (.slice r_9.1.a r_9.1.len r_9.1.cap) w_10) fun s_11 w_12 =>
  rec hash0 prk1 info2 n3 s_11 r_9.1 (IntKind.i64.wrap (i11 + 1)) w_12) else (some ((out9, ()), w))
noncomputable def ref01_Expand_l0 (K : Nat) (n : Nat) : Int → Sl → Sl → Int → Sl → Sl → Int → World → Option ((Sl × Unit) × World) := iter (fun _ _ _ _ _ _ _ _ => none) (ref01_Expand_l0_b K) n
/-- coffer/cofferref01.Expand -/
noncomputable def ref01_Expand (K : Nat) (hash0 : Int) (prk1 : Sl) (info2 : Sl) (n3 : Int) (w : World) : Option ((Sl × Unit) × World) :=
  bnd (ref01_Expand_l0 K K hash0 prk1 info2 n3 ⟨none, 0, 0⟩ ⟨none, 0, 0⟩ 1 w) fun y_13 w_14 =>
  if (0 : Int) ≤ n3 ∧ n3 ≤ ((y_13.1.cap : Nat) : Int) then (some ((⟨(sla y_13.1.a 0 y_13.1.cap 1), ((Int.toNat (n3)) - 0), (y_13.1.cap - 0)⟩, ()), w_14)) else none
theorem ref01_Expand_l0_ok (K : Nat) (n : Nat) : StmtNOk prog [(0, .int .i64), (1, .sl), (2, .sl), (3, .int .i64), (9, .sl), (10, .sl), (11, .int .i64)] [(9, .sl)] [(9, 37)] ((fun n x w => ref01_Expand_l0 K n x.1 x.2.1 x.2.2.1 x.2.2.2.1 x.2.2.2.2.1 x.2.2.2.2.2.1 x.2.2.2.2.2.2.1 w) n) (.block 0 (.loop (cd (bodyOf f71) [1, 1, 1, 0, 1, 0, 0]))) :=
    mk_loopN (O := tabL []) (root := (bodyOf f71)) (π := [1, 1, 1, 0, 1, 0, 0]) (id := 0) (Li := [(0, .int .i64), (1, .sl), (2, .sl), (3, .int .i64), (9, .sl), (10, .sl), (11, .int .i64)]) (Lo := [(9, .sl)]) (S := (fun n x w => ref01_Expand_l0 K n x.1 x.2.1 x.2.2.1 x.2.2.2.1 x.2.2.2.2.1 x.2.2.2.2.2.1 x.2.2.2.2.2.2.1 w)) (body := cd (bodyOf f71) [1, 1, 1, 0, 1, 0, 0]) (ref01_Expand_Eok K) (ref01_Expand_Rok K) rfl (Orc.nil _ _ _) (by kernel_rfl) (fun _ _ => by kernel_rfl) (fun _ _ _ => by kernel_rfl) n
noncomputable def ref01_Expand_l0_se (K : Nat) : SE := stmtN [(0, .int .i64), (1, .sl), (2, .sl), (3, .int .i64), (9, .sl), (10, .sl), (11, .int .i64)] [(9, .sl)] [(9, 37)] (fun x w => ref01_Expand_l0 K K x.1 x.2.1 x.2.2.1 x.2.2.2.1 x.2.2.2.2.1 x.2.2.2.2.2.1 x.2.2.2.2.2.2.1 w)
theorem ref01_Expand_l0_se_ok (K : Nat) (R : Rg) (h : subRB [(9, 37)] R = true) : (ref01_Expand_l0_se K).Ok prog R (.block 0 (.loop (cd (bodyOf f71) [1, 1, 1, 0, 1, 0, 0]))) := stmtN_ok (Li := [(0, .int .i64), (1, .sl), (2, .sl), (3, .int .i64), (9, .sl), (10, .sl), (11, .int .i64)]) (Lo := [(9, .sl)]) (S := (fun x w => ref01_Expand_l0 K K x.1 x.2.1 x.2.2.1 x.2.2.2.1 x.2.2.2.2.1 x.2.2.2.2.2.1 x.2.2.2.2.2.2.1 w)) (ref01_Expand_l0_ok K K) (subR_of h)
theorem ref01_Expand_facts : FunFacts prog 71 f71 (bodyOf f71) [(0, .int .i64), (1, .sl), (2, .sl), (3, .int .i64)] [(0, 40)] := ⟨func71, by kernel_rfl, by kernel_rfl, by kernel_rfl, by kernel_rfl, by kernel_rfl⟩
theorem ref01_Expand_calls (K : Nat) (x : TT [(0, .int .i64), (1, .sl), (2, .sl), (3, .int .i64)]) (w : World) (y : TR [.sl]) (w2 : World) (h : ref01_Expand K x.1 x.2.1 x.2.2.1 x.2.2.2.1 w = some (y, w2)) : Calls prog 71 (encA [(0, .int .i64), (1, .sl), (2, .sl), (3, .int .i64)] x).toArray w (fun e w3 => e = .returned (resV (encR [.sl] y)) ∧ w3 = w2) :=
    mk_fun (O := tabL [([1, 1, 1, 0, 1], ref01_Expand_l0_se K)]) (Lp := [(0, .int .i64), (1, .sl), (2, .sl), (3, .int .i64)]) (Rt := [.sl]) (S := (fun x w => ref01_Expand K x.1 x.2.1 x.2.2.1 x.2.2.2.1 w)) (ref01_Expand_Eok K) (ref01_Expand_Rok K) rfl ref01_Expand_facts (Orc.cons (by kernel_rfl) (ref01_Expand_l0_se_ok K [(0, 40)] (by kernel_rfl)) (Orc.nil _ _ _)) (fun _ _ => by kernel_rfl) x w y w2 h
noncomputable def ref01_Expand_ce (K : Nat) : CE := funE [(0, .int .i64), (1, .sl), (2, .sl), (3, .int .i64)] [.sl] (fun x w => ref01_Expand K x.1 x.2.1 x.2.2.1 x.2.2.2.1 w)
theorem ref01_Expand_ok (K : Nat) : (ref01_Expand_ce K).Ok prog 71 := funE_ok (Rt := [.sl]) (S := (fun x w => ref01_Expand K x.1 x.2.1 x.2.2.1 x.2.2.2.1 w)) ref01_Expand_facts fun x w y w2 h => ref01_Expand_calls K x w y w2 h

noncomputable def law01_expands_E (K : Nat) : List (Nat × CE) := [(53, digest_Expand_ce K), (71, ref01_Expand_ce K), (27, book_SameBytes_ce K), (29, book_SpoilBytes_ce K)]
theorem law01_expands_Eok (K : Nat) : Env.Ok prog (tab (law01_expands_E K)) := (Env.cons (digest_Expand_ok K) (Env.cons (ref01_Expand_ok K) (Env.cons (book_SameBytes_ok K) (Env.cons (book_SpoilBytes_ok K) (Env.nil _)))))
noncomputable def law01_expands_R (K : Nat) : List (Nat × RE) := [(70, ref01_ExpandError_re), (26, law01_num_re)]
theorem law01_expands_Rok (K : Nat) : REnv.Ok prog (tab (law01_expands_R K)) := (REnv.cons (ref01_ExpandError_ok) (REnv.cons (law01_num_ok) (REnv.nil _)))
noncomputable def law01_expands_s0 (K : Nat) (hash0 : Int) (key1 : Sl) (info3 : Sl) (n4 : Int) (w16 : Sl) (a41 : Bool) (w : World) : Option ((Sl × Unit) × World) :=
  if a41 = true then (bnd (ref01_Expand K hash0 key1 info3 n4 w) fun r_6 w_7 =>
  some ((r_6.1, ()), w_7)) else (some ((w16, ()), w))
noncomputable def law01_expands_s1 (K : Nat) (a11 : Sl) (e12 : Int) (b13 : Sl) (f14 : Int) (want15 : Int) (w16 : Sl) (w : World) : Option ((Bool × Unit) × World) :=
  (law01_num e12).bind fun r_10 =>
  if (r_10.1 != want15) = true then (some ((true, ()), w)) else ((law01_num f14).bind fun r_11 =>
  if (r_11.1 != want15) = true then (some ((true, ()), w)) else (bnd (book_SameBytes K a11 w16 w) fun r_12 w_13 =>
  if (!r_12.1) = true then (some ((true, ()), w_13)) else (bnd (book_SameBytes K b13 w16 w_13) fun r_14 w_15 =>
  some (((!r_14.1), ()), w_15))))
/-- coffer/cofferlaw01.expands -/
noncomputable def law01_expands (K : Nat) (hash0 : Int) (key1 : Sl) (lent2 : Sl) (info3 : Sl) (n4 : Int) (w : World) : Option ((Bool × Unit) × World) :=
  bnd (digest_Expand K hash0 key1 lent2 n4 w) fun r_1 w_2 =>
  bnd (digest_Expand K hash0 key1 lent2 n4 w_2) fun r_3 w_4 =>
  (ref01_ExpandError hash0 ((key1.len : Nat) : Int) ((info3.len : Nat) : Int) n4).bind fun r_5 =>
  bnd (law01_expands_s0 K hash0 key1 info3 n4 ⟨none, 0, 0⟩ (r_5.1 == 0) w_4) fun y_8 w_9 =>
  bnd (law01_expands_s1 K r_1.1 r_1.2.1 r_3.1 r_3.2.1 r_5.1 y_8.1 w_9) fun y_16 w_17 =>
  if y_16.1 = true then (some ((false, ()), w_17)) else (bnd (book_SpoilBytes K r_1.1 w_17) fun r_18 w_19 =>
  bnd (book_SameBytes K r_3.1 y_8.1 w_19) fun r_20 w_21 =>
  some ((r_20.1, ()), w_21))
theorem law01_expands_s0_ok (K : Nat) : StmtNOk prog [(0, .int .i64), (1, .sl), (3, .sl), (4, .int .i64), (16, .sl), (41, .bool)] [(16, .sl)] [(16, 17), (42, 47)] (fun x w => law01_expands_s0 K x.1 x.2.1 x.2.2.1 x.2.2.2.1 x.2.2.2.2.1 x.2.2.2.2.2.1 w) (cd (bodyOf f39) [1, 1, 1, 1, 1, 0, 1]) :=
    mk_stmtN (O := tabL []) (root := (bodyOf f39)) (π := [1, 1, 1, 1, 1, 0, 1]) (Li := [(0, .int .i64), (1, .sl), (3, .sl), (4, .int .i64), (16, .sl), (41, .bool)]) (Lo := [(16, .sl)]) (S := (fun x w => law01_expands_s0 K x.1 x.2.1 x.2.2.1 x.2.2.2.1 x.2.2.2.2.1 x.2.2.2.2.2.1 w)) (law01_expands_Eok K) (law01_expands_Rok K) rfl (Orc.nil _ _ _) (by kernel_rfl) (fun _ _ => by kernel_rfl)
noncomputable def law01_expands_s0_se (K : Nat) : SE := stmtN [(0, .int .i64), (1, .sl), (3, .sl), (4, .int .i64), (16, .sl), (41, .bool)] [(16, .sl)] [(16, 17), (42, 47)] (fun x w => law01_expands_s0 K x.1 x.2.1 x.2.2.1 x.2.2.2.1 x.2.2.2.2.1 x.2.2.2.2.2.1 w)
theorem law01_expands_s0_se_ok (K : Nat) (R : Rg) (h : subRB [(16, 17), (42, 47)] R = true) : (law01_expands_s0_se K).Ok prog R (cd (bodyOf f39) [1, 1, 1, 1, 1, 0, 1]) := stmtN_ok (Li := [(0, .int .i64), (1, .sl), (3, .sl), (4, .int .i64), (16, .sl), (41, .bool)]) (Lo := [(16, .sl)]) (S := (fun x w => law01_expands_s0 K x.1 x.2.1 x.2.2.1 x.2.2.2.1 x.2.2.2.2.1 x.2.2.2.2.2.1 w)) (law01_expands_s0_ok K) (subR_of h)
theorem law01_expands_s1_ok (K : Nat) : StmtNOk prog [(11, .sl), (12, .int .i64), (13, .sl), (14, .int .i64), (15, .int .i64), (16, .sl)] [(68, .bool)] [(47, 69)] (fun x w => law01_expands_s1 K x.1 x.2.1 x.2.2.1 x.2.2.2.1 x.2.2.2.2.1 x.2.2.2.2.2.1 w) (cd (bodyOf f39) [1, 1, 1, 1, 1, 1, 0, 0]) :=
    mk_stmtN (O := tabL []) (root := (bodyOf f39)) (π := [1, 1, 1, 1, 1, 1, 0, 0]) (Li := [(11, .sl), (12, .int .i64), (13, .sl), (14, .int .i64), (15, .int .i64), (16, .sl)]) (Lo := [(68, .bool)]) (S := (fun x w => law01_expands_s1 K x.1 x.2.1 x.2.2.1 x.2.2.2.1 x.2.2.2.2.1 x.2.2.2.2.2.1 w)) (law01_expands_Eok K) (law01_expands_Rok K) rfl (Orc.nil _ _ _) (by kernel_rfl) (fun _ _ => by kernel_rfl)
noncomputable def law01_expands_s1_se (K : Nat) : SE := stmtN [(11, .sl), (12, .int .i64), (13, .sl), (14, .int .i64), (15, .int .i64), (16, .sl)] [(68, .bool)] [(47, 69)] (fun x w => law01_expands_s1 K x.1 x.2.1 x.2.2.1 x.2.2.2.1 x.2.2.2.2.1 x.2.2.2.2.2.1 w)
theorem law01_expands_s1_se_ok (K : Nat) (R : Rg) (h : subRB [(47, 69)] R = true) : (law01_expands_s1_se K).Ok prog R (cd (bodyOf f39) [1, 1, 1, 1, 1, 1, 0, 0]) := stmtN_ok (Li := [(11, .sl), (12, .int .i64), (13, .sl), (14, .int .i64), (15, .int .i64), (16, .sl)]) (Lo := [(68, .bool)]) (S := (fun x w => law01_expands_s1 K x.1 x.2.1 x.2.2.1 x.2.2.2.1 x.2.2.2.2.1 x.2.2.2.2.2.1 w)) (law01_expands_s1_ok K) (subR_of h)
theorem law01_expands_facts : FunFacts prog 39 f39 (bodyOf f39) [(0, .int .i64), (1, .sl), (2, .sl), (3, .sl), (4, .int .i64)] [(0, 74)] := ⟨func39, by kernel_rfl, by kernel_rfl, by kernel_rfl, by kernel_rfl, by kernel_rfl⟩
theorem law01_expands_calls (K : Nat) (x : TT [(0, .int .i64), (1, .sl), (2, .sl), (3, .sl), (4, .int .i64)]) (w : World) (y : TR [.bool]) (w2 : World) (h : law01_expands K x.1 x.2.1 x.2.2.1 x.2.2.2.1 x.2.2.2.2.1 w = some (y, w2)) : Calls prog 39 (encA [(0, .int .i64), (1, .sl), (2, .sl), (3, .sl), (4, .int .i64)] x).toArray w (fun e w3 => e = .returned (resV (encR [.bool] y)) ∧ w3 = w2) :=
    mk_fun (O := tabL [([1, 1, 1, 1, 1, 0, 1], law01_expands_s0_se K), ([1, 1, 1, 1, 1, 1, 0, 0], law01_expands_s1_se K)]) (Lp := [(0, .int .i64), (1, .sl), (2, .sl), (3, .sl), (4, .int .i64)]) (Rt := [.bool]) (S := (fun x w => law01_expands K x.1 x.2.1 x.2.2.1 x.2.2.2.1 x.2.2.2.2.1 w)) (law01_expands_Eok K) (law01_expands_Rok K) rfl law01_expands_facts (Orc.cons (by kernel_rfl) (law01_expands_s0_se_ok K [(0, 74)] (by kernel_rfl)) (Orc.cons (by kernel_rfl) (law01_expands_s1_se_ok K [(0, 74)] (by kernel_rfl)) (Orc.nil _ _ _))) (fun _ _ => by kernel_rfl) x w y w2 h
noncomputable def law01_expands_ce (K : Nat) : CE := funE [(0, .int .i64), (1, .sl), (2, .sl), (3, .sl), (4, .int .i64)] [.bool] (fun x w => law01_expands K x.1 x.2.1 x.2.2.1 x.2.2.2.1 x.2.2.2.2.1 w)
theorem law01_expands_ok (K : Nat) : (law01_expands_ce K).Ok prog 39 := funE_ok (Rt := [.bool]) (S := (fun x w => law01_expands K x.1 x.2.1 x.2.2.1 x.2.2.2.1 x.2.2.2.2.1 w)) law01_expands_facts fun x w y w2 h => law01_expands_calls K x w y w2 h

noncomputable def law01_DigestExpands_E (K : Nat) : List (Nat × CE) := [(30, book_Bytes_ce K), (37, digest_Extract_ce K), (38, ref01_Extract_ce K), (27, book_SameBytes_ce K), (39, law01_expands_ce K), (33, book_WholeBytes_ce K)]
theorem law01_DigestExpands_Eok (K : Nat) : Env.Ok prog (tab (law01_DigestExpands_E K)) := (Env.cons (book_Bytes_ok K) (Env.cons (digest_Extract_ok K) (Env.cons (ref01_Extract_ok K) (Env.cons (book_SameBytes_ok K) (Env.cons (law01_expands_ok K) (Env.cons (book_WholeBytes_ok K) (Env.nil _)))))))
noncomputable def law01_DigestExpands_R (K : Nat) : List (Nat × RE) := [(26, law01_num_re), (19, ref01_Size_re)]
theorem law01_DigestExpands_Rok (K : Nat) : REnv.Ok prog (tab (law01_DigestExpands_R K)) := (REnv.cons (law01_num_ok) (REnv.cons (ref01_Size_ok) (REnv.nil _)))
noncomputable def law01_DigestExpands_s0 (K : Nat) (salt4 : Sl) (secret5 : Sl) (info6 : Sl) (w : World) : Option ((Bool × Unit) × World) :=
  if (decide ((IntKind.i64.wrap (((salt4.len : Nat) : Int) + ((secret5.len : Nat) : Int))) > 65536)) = true then (some ((true, ()), w)) else (some (((decide (((info6.len : Nat) : Int) > 1024)), ()), w))
noncomputable def law01_DigestExpands_s1 (K : Nat) (hash3 : Int) (prk11 : Sl) (e12 : Int) (k13 : Sl) (w : World) : Option ((Bool × Unit) × World) :=
  (law01_num e12).bind fun r_20 =>
  (ref01_Size hash3).bind fun r_21 =>
  if (!((r_20.1 == 0) == (decide (r_21.1 > 0)))) = true then (some ((true, ()), w)) else ((law01_num e12).bind fun r_22 =>
  if (r_22.1 != 0) = true then ((law01_num e12).bind fun r_23 =>
  if (r_23.1 != 10) = true then (some ((true, ()), w)) else (bnd (book_SameBytes K prk11 k13 w) fun r_24 w_25 =>
  some (((!r_24.1), ()), w_25))) else (bnd (book_SameBytes K prk11 k13 w) fun r_26 w_27 =>
  some (((!r_26.1), ()), w_27)))
/-- coffer/cofferlaw01.DigestExpands -/
noncomputable def law01_DigestExpands (K : Nat) (d0 : Array Value) (w : World) : Option ((Bool × Unit) × World) :=
  bnd (newB d0 42 w) fun p_1 w_2 =>
  (ldI .i64 (p_1.add 0) w_2).bind fun v_3 =>
  (ldS (p_1.add 2) w_2).bind fun v_4 =>
  (ldS (p_1.add 1) w_2).bind fun v_5 =>
  (ldS (p_1.add 3) w_2).bind fun v_6 =>
  (ldI .i64 (p_1.add 5) w_2).bind fun v_7 =>
  bnd (law01_DigestExpands_s0 K v_4 v_5 v_6 w_2) fun y_8 w_9 =>
  if y_8.1 = true then (some ((true, ()), w_9)) else (bnd (book_Bytes K v_4 w_9) fun r_10 w_11 =>
  bnd (book_Bytes K v_5 w_11) fun r_12 w_13 =>
  bnd (book_Bytes K v_6 w_13) fun r_14 w_15 =>
  bnd (digest_Extract K v_3 r_10.1 r_12.1 w_15) fun r_16 w_17 =>
  bnd (ref01_Extract K v_3 v_4 v_5 w_17) fun r_18 w_19 =>
  bnd (law01_DigestExpands_s1 K v_3 r_16.1 r_16.2.1 r_18.1 w_19) fun y_28 w_29 =>
  if y_28.1 = true then (some ((false, ()), w_29)) else (bnd (law01_expands K v_3 r_18.1 r_14.1 v_6 v_7 w_29) fun r_30 w_31 =>
  if r_30.1 = true then (bnd (law01_expands K v_3 r_12.1 r_14.1 v_6 v_7 w_31) fun r_32 w_33 =>
  if r_32.1 = true then (bnd (book_WholeBytes K r_10.1 v_4 w_33) fun r_34 w_35 =>
  if r_34.1 = true then (bnd (book_WholeBytes K r_12.1 v_5 w_35) fun r_36 w_37 =>
  if r_36.1 = true then (bnd (book_WholeBytes K r_14.1 v_6 w_37) fun r_38 w_39 =>
  some ((r_38.1, ()), w_39)) else (some ((false, ()), w_37))) else (some ((false, ()), w_35))) else (some ((false, ()), w_33))) else (some ((false, ()), w_31))))
theorem law01_DigestExpands_s0_ok (K : Nat) : StmtNOk prog [(4, .sl), (5, .sl), (6, .sl)] [(34, .bool)] [(24, 35)] (fun x w => law01_DigestExpands_s0 K x.1 x.2.1 x.2.2.1 w) (cd (bodyOf f7) [1, 1, 1, 1, 1, 1, 0, 0]) :=
    mk_stmtN (O := tabL []) (root := (bodyOf f7)) (π := [1, 1, 1, 1, 1, 1, 0, 0]) (Li := [(4, .sl), (5, .sl), (6, .sl)]) (Lo := [(34, .bool)]) (S := (fun x w => law01_DigestExpands_s0 K x.1 x.2.1 x.2.2.1 w)) (law01_DigestExpands_Eok K) (law01_DigestExpands_Rok K) rfl (Orc.nil _ _ _) (by kernel_rfl) (fun _ _ => by kernel_rfl)
noncomputable def law01_DigestExpands_s0_se (K : Nat) : SE := stmtN [(4, .sl), (5, .sl), (6, .sl)] [(34, .bool)] [(24, 35)] (fun x w => law01_DigestExpands_s0 K x.1 x.2.1 x.2.2.1 w)
theorem law01_DigestExpands_s0_se_ok (K : Nat) (R : Rg) (h : subRB [(24, 35)] R = true) : (law01_DigestExpands_s0_se K).Ok prog R (cd (bodyOf f7) [1, 1, 1, 1, 1, 1, 0, 0]) := stmtN_ok (Li := [(4, .sl), (5, .sl), (6, .sl)]) (Lo := [(34, .bool)]) (S := (fun x w => law01_DigestExpands_s0 K x.1 x.2.1 x.2.2.1 w)) (law01_DigestExpands_s0_ok K) (subR_of h)
theorem law01_DigestExpands_s1_ok (K : Nat) : StmtNOk prog [(3, .int .i64), (11, .sl), (12, .int .i64), (13, .sl)] [(74, .bool)] [(52, 75)] (fun x w => law01_DigestExpands_s1 K x.1 x.2.1 x.2.2.1 x.2.2.2.1 w) (cd (bodyOf f7) [1, 1, 1, 1, 1, 1, 1, 1, 1, 1, 1, 1, 0, 0]) :=
    mk_stmtN (O := tabL []) (root := (bodyOf f7)) (π := [1, 1, 1, 1, 1, 1, 1, 1, 1, 1, 1, 1, 0, 0]) (Li := [(3, .int .i64), (11, .sl), (12, .int .i64), (13, .sl)]) (Lo := [(74, .bool)]) (S := (fun x w => law01_DigestExpands_s1 K x.1 x.2.1 x.2.2.1 x.2.2.2.1 w)) (law01_DigestExpands_Eok K) (law01_DigestExpands_Rok K) rfl (Orc.nil _ _ _) (by kernel_rfl) (fun _ _ => by kernel_rfl)
noncomputable def law01_DigestExpands_s1_se (K : Nat) : SE := stmtN [(3, .int .i64), (11, .sl), (12, .int .i64), (13, .sl)] [(74, .bool)] [(52, 75)] (fun x w => law01_DigestExpands_s1 K x.1 x.2.1 x.2.2.1 x.2.2.2.1 w)
theorem law01_DigestExpands_s1_se_ok (K : Nat) (R : Rg) (h : subRB [(52, 75)] R = true) : (law01_DigestExpands_s1_se K).Ok prog R (cd (bodyOf f7) [1, 1, 1, 1, 1, 1, 1, 1, 1, 1, 1, 1, 0, 0]) := stmtN_ok (Li := [(3, .int .i64), (11, .sl), (12, .int .i64), (13, .sl)]) (Lo := [(74, .bool)]) (S := (fun x w => law01_DigestExpands_s1 K x.1 x.2.1 x.2.2.1 x.2.2.2.1 w)) (law01_DigestExpands_s1_ok K) (subR_of h)
theorem law01_DigestExpands_facts : FunFacts prog 7 f7 (bodyOf f7) [(0, .agg)] [(0, 104)] := ⟨func7, by kernel_rfl, by kernel_rfl, by kernel_rfl, by kernel_rfl, by kernel_rfl⟩
theorem law01_DigestExpands_calls (K : Nat) (x : TT [(0, .agg)]) (w : World) (y : TR [.bool]) (w2 : World) (h : law01_DigestExpands K x.1 w = some (y, w2)) : Calls prog 7 (encA [(0, .agg)] x).toArray w (fun e w3 => e = .returned (resV (encR [.bool] y)) ∧ w3 = w2) :=
    mk_fun (O := tabL [([1, 1, 1, 1, 1, 1, 0, 0], law01_DigestExpands_s0_se K), ([1, 1, 1, 1, 1, 1, 1, 1, 1, 1, 1, 1, 0, 0], law01_DigestExpands_s1_se K)]) (Lp := [(0, .agg)]) (Rt := [.bool]) (S := (fun x w => law01_DigestExpands K x.1 w)) (law01_DigestExpands_Eok K) (law01_DigestExpands_Rok K) rfl law01_DigestExpands_facts (Orc.cons (by kernel_rfl) (law01_DigestExpands_s0_se_ok K [(0, 104)] (by kernel_rfl)) (Orc.cons (by kernel_rfl) (law01_DigestExpands_s1_se_ok K [(0, 104)] (by kernel_rfl)) (Orc.nil _ _ _))) (fun _ _ => by kernel_rfl) x w y w2 h
noncomputable def law01_DigestExpands_ce (K : Nat) : CE := funE [(0, .agg)] [.bool] (fun x w => law01_DigestExpands K x.1 w)
theorem law01_DigestExpands_ok (K : Nat) : (law01_DigestExpands_ce K).Ok prog 7 := funE_ok (Rt := [.bool]) (S := (fun x w => law01_DigestExpands K x.1 w)) law01_DigestExpands_facts fun x w y w2 h => law01_DigestExpands_calls K x w y w2 h

noncomputable def digest_Stream_Count_R : List (Nat × RE) := []
theorem digest_Stream_Count_Rok : REnv.Ok prog (tab (digest_Stream_Count_R)) := (REnv.nil _)
/-- (*coffer/digest.Stream).Count -/
noncomputable def digest_Stream_Count (s0 : Option Addr) (w : World) : Option (Int × Unit) :=
  if s0.isNone = true then (some (0, ())) else ((s0).bind fun p_1 =>
  (ldI .u64 ((p_1.add 0).add 5) w).bind fun v_2 =>
  some (v_2, ()))
theorem digest_Stream_Count_facts : FunFacts prog 46 f46 (bodyOf f46) [(0, .ptr)] [(0, 10)] := ⟨func46, by kernel_rfl, by kernel_rfl, by kernel_rfl, by kernel_rfl, by kernel_rfl⟩
theorem digest_Stream_Count_calls (x : TT [(0, .ptr)]) (w : World) (y : TR [.int .u64]) (h : digest_Stream_Count x.1 w = some y) : Calls prog 46 (encA [(0, .ptr)] x).toArray w (fun e w3 => e = .returned (resV (encR [.int .u64] y)) ∧ w3 = w) :=
    mk_funQ (O := tabL []) (Lp := [(0, .ptr)]) (Rt := [.int .u64]) (S := (fun x w => digest_Stream_Count x.1 w)) (digest_Stream_Count_Rok) digest_Stream_Count_facts (OrcQ.nil _ _ _) (fun _ _ => by kernel_rfl) x w y h
noncomputable def digest_Stream_Count_re : RE := funR [(0, .ptr)] [.int .u64] (fun x w => digest_Stream_Count x.1 w)
theorem digest_Stream_Count_ok : (digest_Stream_Count_re).Ok prog 46 := funR_ok (Rt := [.int .u64]) (S := (fun x w => digest_Stream_Count x.1 w)) digest_Stream_Count_facts fun x w y h => digest_Stream_Count_calls x w y h

noncomputable def digest_Stream_Reset_E (K : Nat) : List (Nat × CE) := [(72, digest_begin_ce K)]
theorem digest_Stream_Reset_Eok (K : Nat) : Env.Ok prog (tab (digest_Stream_Reset_E K)) := (Env.cons (digest_begin_ok K) (Env.nil _))
noncomputable def digest_Stream_Reset_R (K : Nat) : List (Nat × RE) := []
theorem digest_Stream_Reset_Rok (K : Nat) : REnv.Ok prog (tab (digest_Stream_Reset_R K)) := (REnv.nil _)
/-- (*coffer/digest.Stream).Reset -/
noncomputable def digest_Stream_Reset (K : Nat) (s0 : Option Addr) (w : World) : Option ((Int × Unit) × World) :=
  if s0.isNone = true then (some ((1, ()), w)) else ((s0).bind fun p_1 =>
  (ldI .i64 ((p_1.add 0).add 4) w).bind fun v_2 =>
  bnd (digest_begin K v_2 w) fun r_3 w_4 =>
  (s0).bind fun p_5 =>
  if (r_3.1).size = 142 then ((stA (p_5.add 0) r_3.1 w_4).bind fun w_6 =>
  some ((0, ()), w_6)) else none)
theorem digest_Stream_Reset_facts : FunFacts prog 47 f47 (bodyOf f47) [(0, .ptr)] [(0, 17)] := ⟨func47, by kernel_rfl, by kernel_rfl, by kernel_rfl, by kernel_rfl, by kernel_rfl⟩
theorem digest_Stream_Reset_calls (K : Nat) (x : TT [(0, .ptr)]) (w : World) (y : TR [.int .i64]) (w2 : World) (h : digest_Stream_Reset K x.1 w = some (y, w2)) : Calls prog 47 (encA [(0, .ptr)] x).toArray w (fun e w3 => e = .returned (resV (encR [.int .i64] y)) ∧ w3 = w2) :=
    mk_fun (O := tabL []) (Lp := [(0, .ptr)]) (Rt := [.int .i64]) (S := (fun x w => digest_Stream_Reset K x.1 w)) (digest_Stream_Reset_Eok K) (digest_Stream_Reset_Rok K) rfl digest_Stream_Reset_facts (Orc.nil _ _ _) (fun _ _ => by kernel_rfl) x w y w2 h
noncomputable def digest_Stream_Reset_ce (K : Nat) : CE := funE [(0, .ptr)] [.int .i64] (fun x w => digest_Stream_Reset K x.1 w)
theorem digest_Stream_Reset_ok (K : Nat) : (digest_Stream_Reset_ce K).Ok prog 47 := funE_ok (Rt := [.int .i64]) (S := (fun x w => digest_Stream_Reset K x.1 w)) digest_Stream_Reset_facts fun x w y w2 h => digest_Stream_Reset_calls K x w y w2 h

noncomputable def law01_DigestFull_E (K : Nat) : List (Nat × CE) := [(40, digest_New_ce K), (41, digest_NewMac_ce K), (42, digest_Stream_Write_ce K), (43, digest_Mac_Write_ce K), (44, digest_Stream_Sum_ce K), (45, digest_Mac_Sum_ce K), (27, book_SameBytes_ce K), (47, digest_Stream_Reset_ce K)]
theorem law01_DigestFull_Eok (K : Nat) : Env.Ok prog (tab (law01_DigestFull_E K)) := (Env.cons (digest_New_ok K) (Env.cons (digest_NewMac_ok K) (Env.cons (digest_Stream_Write_ok K) (Env.cons (digest_Mac_Write_ok K) (Env.cons (digest_Stream_Sum_ok K) (Env.cons (digest_Mac_Sum_ok K) (Env.cons (book_SameBytes_ok K) (Env.cons (digest_Stream_Reset_ok K) (Env.nil _)))))))))
noncomputable def law01_DigestFull_R (K : Nat) : List (Nat × RE) := [(26, law01_num_re), (46, digest_Stream_Count_re)]
theorem law01_DigestFull_Rok (K : Nat) : REnv.Ok prog (tab (law01_DigestFull_R K)) := (REnv.cons (law01_num_ok) (REnv.cons (digest_Stream_Count_ok) (REnv.nil _)))
noncomputable def law01_DigestFull_s0 (K : Nat) (s2 : Option Addr) (e3 : Int) (m4 : Option Addr) (f5 : Int) (w : World) : Option ((Bool × Unit) × World) :=
  (law01_num e3).bind fun r_7 =>
  if (r_7.1 != 0) = true then (some ((true, ()), w)) else ((law01_num f5).bind fun r_8 =>
  if (r_8.1 != 0) = true then (some ((true, ()), w)) else (if s2.isNone = true then (some ((true, ()), w)) else (some ((m4.isNone, ()), w))))
noncomputable def law01_DigestFull_l1_b (K : Nat) (rec : Sl → Option Addr → Option Addr → Int → World → Option ((Out (Unit) (Bool × Unit)) × World)) (mega1 : Sl) (s2 : Option Addr) (m4 : Option Addr) (i6 : Int) (w : World) : Option ((Out (Unit) (Bool × Unit)) × World) :=
  if (decide (i6 < 32)) = true then (bnd (bldS prog 24 1 #[(0, (.slice mega1.a mega1.len mega1.cap))] w) fun s_11 w_12 =>
  bnd (digest_Stream_Write K s2 s_11 w_12) fun r_13 w_14 =>
  (law01_num r_13.1).bind fun r_15 =>
  if (r_15.1 != 0) = true then (some (.ret (false, ()), w_14)) else (bnd (bldS prog 24 1 #[(0, (.slice mega1.a mega1.len mega1.cap))] w_14) fun s_16 w_17 =>
  bnd (digest_Mac_Write K m4 s_16 w_17) fun r_18 w_19 =>
  (law01_num r_18.1).bind fun r_20 =>
  if (r_20.1 != 0) = true then (some (.ret (false, ()), w_19)) else (rec mega1 s2 m4 (IntKind.i64.wrap (i6 + 1)) w_19))) else (some (.norm (), w))
noncomputable def law01_DigestFull_l1 (K : Nat) (n : Nat) : Sl → Option Addr → Option Addr → Int → World → Option ((Out (Unit) (Bool × Unit)) × World) := iter (fun _ _ _ _ _ => none) (law01_DigestFull_l1_b K) n
noncomputable def law01_DigestFull_s2 (K : Nat) (s2 : Option Addr) (m4 : Option Addr) (w : World) : Option ((Bool × Unit) × World) :=
  bnd (bldS prog 25 1 #[(0, (.int .u8 1))] w) fun s_28 w_29 =>
  bnd (bldS prog 24 2 #[(0, (.slice none 0 0)), (1, (.slice s_28.a s_28.len s_28.cap))] w_29) fun s_30 w_31 =>
  bnd (digest_Stream_Write K s2 s_30 w_31) fun r_32 w_33 =>
  (law01_num r_32.1).bind fun r_34 =>
  if (r_34.1 != 4) = true then (some ((true, ()), w_33)) else (bnd (bldS prog 25 1 #[(0, (.int .u8 1))] w_33) fun s_35 w_36 =>
  bnd (bldS prog 24 2 #[(0, (.slice s_35.a s_35.len s_35.cap)), (1, (.slice none 0 0))] w_36) fun s_37 w_38 =>
  bnd (digest_Mac_Write K m4 s_37 w_38) fun r_39 w_40 =>
  (law01_num r_39.1).bind fun r_41 =>
  if (r_41.1 != 4) = true then (some ((true, ()), w_40)) else (bnd (bldS prog 24 2 #[(0, (.slice none 0 0)), (1, (.slice none 0 0))] w_40) fun s_42 w_43 =>
  bnd (digest_Stream_Write K s2 s_42 w_43) fun r_44 w_45 =>
  (law01_num r_44.1).bind fun r_46 =>
  if (r_46.1 != 0) = true then (some ((true, ()), w_45)) else (bnd (digest_Mac_Write K m4 ⟨none, 0, 0⟩ w_45) fun r_47 w_48 =>
  (law01_num r_47.1).bind fun r_49 =>
  some (((r_49.1 != 0), ()), w_48))))
/-- coffer/cofferlaw01.DigestFull -/
noncomputable def law01_DigestFull (K : Nat)  (w : World) : Option ((Bool × Unit) × World) :=
  bnd (mkS prog 25 (.int .i64 1048576) (.int .i64 1048576) w) fun s_1 w_2 =>
  bnd (digest_New K 256 w_2) fun r_3 w_4 =>
  bnd (digest_NewMac K 256 ⟨none, 0, 0⟩ w_4) fun r_5 w_6 =>
  bnd (law01_DigestFull_s0 K r_3.1 r_3.2.1 r_5.1 r_5.2.1 w_6) fun y_9 w_10 =>
  if y_9.1 = true then (some ((false, ()), w_10)) else (bnd (law01_DigestFull_l1 K K s_1 r_3.1 r_5.1 0 w_10) fun y_21 w_22 =>
  (match y_21 with
  | .norm z_23n => (bnd (digest_Stream_Sum K r_3.1 w_22) fun r_24 w_25 =>
  bnd (digest_Mac_Sum K r_5.1 w_25) fun r_26 w_27 =>
  bnd (law01_DigestFull_s2 K r_3.1 r_5.1 w_27) fun y_50 w_51 =>
  if y_50.1 = true then (some ((false, ()), w_51)) else ((digest_Stream_Count r_3.1 w_51).bind fun r_52 =>
  if (r_52.1 == 33554432) = true then (if (((r_24.1.len : Nat) : Int) == 32) = true then (bnd (digest_Stream_Sum K r_3.1 w_51) fun r_53 w_54 =>
  bnd (book_SameBytes K r_53.1 r_24.1 w_54) fun r_55 w_56 =>
  if r_55.1 = true then (bnd (digest_Mac_Sum K r_5.1 w_56) fun r_57 w_58 =>
  bnd (book_SameBytes K r_57.1 r_26.1 w_58) fun r_59 w_60 =>
  if r_59.1 = true then (bnd (digest_Stream_Reset K r_3.1 w_60) fun r_61 w_62 =>
  (law01_num r_61.1).bind fun r_63 =>
  if (r_63.1 == 0) = true then (bnd (bldS prog 25 1 #[(0, (.int .u8 1))] w_62) fun s_64 w_65 =>
  bnd (bldS prog 24 1 #[(0, (.slice s_64.a s_64.len s_64.cap))] w_65) fun s_66 w_67 =>
  bnd (digest_Stream_Write K r_3.1 s_66 w_67) fun r_68 w_69 =>
  (law01_num r_68.1).bind fun r_70 =>
  if (r_70.1 == 0) = true then ((digest_Stream_Count r_3.1 w_69).bind fun r_71 =>
  some (((r_71.1 == 1), ()), w_69)) else (some ((false, ()), w_69))) else (some ((false, ()), w_62))) else (some ((false, ()), w_60))) else (some ((false, ()), w_56))) else (some ((false, ()), w_51))) else (some ((false, ()), w_51))))
  | .ret z_23r => (some ((z_23r.1, ()), w_22))))
theorem law01_DigestFull_s0_ok (K : Nat) : StmtNOk prog [(2, .ptr), (3, .int .i64), (4, .ptr), (5, .int .i64)] [(33, .bool)] [(18, 34)] (fun x w => law01_DigestFull_s0 K x.1 x.2.1 x.2.2.1 x.2.2.2.1 w) (cd (bodyOf f8) [1, 1, 1, 1, 0, 0]) :=
    mk_stmtN (O := tabL []) (root := (bodyOf f8)) (π := [1, 1, 1, 1, 0, 0]) (Li := [(2, .ptr), (3, .int .i64), (4, .ptr), (5, .int .i64)]) (Lo := [(33, .bool)]) (S := (fun x w => law01_DigestFull_s0 K x.1 x.2.1 x.2.2.1 x.2.2.2.1 w)) (law01_DigestFull_Eok K) (law01_DigestFull_Rok K) rfl (Orc.nil _ _ _) (by kernel_rfl) (fun _ _ => by kernel_rfl)
noncomputable def law01_DigestFull_s0_se (K : Nat) : SE := stmtN [(2, .ptr), (3, .int .i64), (4, .ptr), (5, .int .i64)] [(33, .bool)] [(18, 34)] (fun x w => law01_DigestFull_s0 K x.1 x.2.1 x.2.2.1 x.2.2.2.1 w)
theorem law01_DigestFull_s0_se_ok (K : Nat) (R : Rg) (h : subRB [(18, 34)] R = true) : (law01_DigestFull_s0_se K).Ok prog R (cd (bodyOf f8) [1, 1, 1, 1, 0, 0]) := stmtN_ok (Li := [(2, .ptr), (3, .int .i64), (4, .ptr), (5, .int .i64)]) (Lo := [(33, .bool)]) (S := (fun x w => law01_DigestFull_s0 K x.1 x.2.1 x.2.2.1 x.2.2.2.1 w)) (law01_DigestFull_s0_ok K) (subR_of h)
theorem law01_DigestFull_l1_ok (K : Nat) (n : Nat) : StmtOk prog [(1, .sl), (2, .ptr), (4, .ptr), (6, .int .i64)] [] [(0, .bool)] [(0, 1), (6, 7), (34, 52)] ((fun n x w => law01_DigestFull_l1 K n x.1 x.2.1 x.2.2.1 x.2.2.2.1 w) n) (.block 0 (.loop (cd (bodyOf f8) [1, 1, 1, 1, 1, 0, 1, 0, 0]))) :=
    mk_loop (O := tabL []) (root := (bodyOf f8)) (π := [1, 1, 1, 1, 1, 0, 1, 0, 0]) (id := 0) (Li := [(1, .sl), (2, .ptr), (4, .ptr), (6, .int .i64)]) (Lo := []) (Lr := [(0, .bool)]) (S := (fun n x w => law01_DigestFull_l1 K n x.1 x.2.1 x.2.2.1 x.2.2.2.1 w)) (body := cd (bodyOf f8) [1, 1, 1, 1, 1, 0, 1, 0, 0]) (law01_DigestFull_Eok K) (law01_DigestFull_Rok K) rfl (Orc.nil _ _ _) (by kernel_rfl) (fun _ _ => by kernel_rfl) (fun _ _ _ => by kernel_rfl) n
noncomputable def law01_DigestFull_l1_se (K : Nat) : SE := stmt [(1, .sl), (2, .ptr), (4, .ptr), (6, .int .i64)] [] [(0, .bool)] [(0, 1), (6, 7), (34, 52)] (fun x w => law01_DigestFull_l1 K K x.1 x.2.1 x.2.2.1 x.2.2.2.1 w)
theorem law01_DigestFull_l1_se_ok (K : Nat) (R : Rg) (h : subRB [(0, 1), (6, 7), (34, 52)] R = true) : (law01_DigestFull_l1_se K).Ok prog R (.block 0 (.loop (cd (bodyOf f8) [1, 1, 1, 1, 1, 0, 1, 0, 0]))) := stmt_ok (Li := [(1, .sl), (2, .ptr), (4, .ptr), (6, .int .i64)]) (Lo := []) (Lr := [(0, .bool)]) (S := (fun x w => law01_DigestFull_l1 K K x.1 x.2.1 x.2.2.1 x.2.2.2.1 w)) (law01_DigestFull_l1_ok K K) (subR_of h)
theorem law01_DigestFull_s2_ok (K : Nat) : StmtNOk prog [(2, .ptr), (4, .ptr)] [(82, .bool)] [(56, 83)] (fun x w => law01_DigestFull_s2 K x.1 x.2.1 w) (cd (bodyOf f8) [1, 1, 1, 1, 1, 1, 1, 1, 0, 0]) :=
    mk_stmtN (O := tabL []) (root := (bodyOf f8)) (π := [1, 1, 1, 1, 1, 1, 1, 1, 0, 0]) (Li := [(2, .ptr), (4, .ptr)]) (Lo := [(82, .bool)]) (S := (fun x w => law01_DigestFull_s2 K x.1 x.2.1 w)) (law01_DigestFull_Eok K) (law01_DigestFull_Rok K) rfl (Orc.nil _ _ _) (by kernel_rfl) (fun _ _ => by kernel_rfl)
noncomputable def law01_DigestFull_s2_se (K : Nat) : SE := stmtN [(2, .ptr), (4, .ptr)] [(82, .bool)] [(56, 83)] (fun x w => law01_DigestFull_s2 K x.1 x.2.1 w)
theorem law01_DigestFull_s2_se_ok (K : Nat) (R : Rg) (h : subRB [(56, 83)] R = true) : (law01_DigestFull_s2_se K).Ok prog R (cd (bodyOf f8) [1, 1, 1, 1, 1, 1, 1, 1, 0, 0]) := stmtN_ok (Li := [(2, .ptr), (4, .ptr)]) (Lo := [(82, .bool)]) (S := (fun x w => law01_DigestFull_s2 K x.1 x.2.1 w)) (law01_DigestFull_s2_ok K) (subR_of h)
theorem law01_DigestFull_facts : FunFacts prog 8 f8 (bodyOf f8) [] [(0, 122)] := ⟨func8, by kernel_rfl, by kernel_rfl, by kernel_rfl, by kernel_rfl, by kernel_rfl⟩
theorem law01_DigestFull_calls (K : Nat) (x : TT []) (w : World) (y : TR [.bool]) (w2 : World) (h : law01_DigestFull K  w = some (y, w2)) : Calls prog 8 (encA [] x).toArray w (fun e w3 => e = .returned (resV (encR [.bool] y)) ∧ w3 = w2) :=
    mk_fun (O := tabL [([1, 1, 1, 1, 0, 0], law01_DigestFull_s0_se K), ([1, 1, 1, 1, 1, 0, 1], law01_DigestFull_l1_se K), ([1, 1, 1, 1, 1, 1, 1, 1, 0, 0], law01_DigestFull_s2_se K)]) (Lp := []) (Rt := [.bool]) (S := (fun x w => law01_DigestFull K  w)) (law01_DigestFull_Eok K) (law01_DigestFull_Rok K) rfl law01_DigestFull_facts (Orc.cons (by kernel_rfl) (law01_DigestFull_s0_se_ok K [(0, 122)] (by kernel_rfl)) (Orc.cons (by kernel_rfl) (law01_DigestFull_l1_se_ok K [(0, 122)] (by kernel_rfl)) (Orc.cons (by kernel_rfl) (law01_DigestFull_s2_se_ok K [(0, 122)] (by kernel_rfl)) (Orc.nil _ _ _)))) (fun _ _ => by kernel_rfl) x w y w2 h
noncomputable def law01_DigestFull_ce (K : Nat) : CE := funE [] [.bool] (fun x w => law01_DigestFull K  w)
theorem law01_DigestFull_ok (K : Nat) : (law01_DigestFull_ce K).Ok prog 8 := funE_ok (Rt := [.bool]) (S := (fun x w => law01_DigestFull K  w)) law01_DigestFull_facts fun x w y w2 h => law01_DigestFull_calls K x w y w2 h

noncomputable def strings_Builder_WriteByte_E : List (Nat × CE) := [(84, strings_Builder_copyCheck_ce)]
theorem strings_Builder_WriteByte_Eok : Env.Ok prog (tab (strings_Builder_WriteByte_E)) := (Env.cons (strings_Builder_copyCheck_ok) (Env.nil _))
noncomputable def strings_Builder_WriteByte_R : List (Nat × RE) := []
theorem strings_Builder_WriteByte_Rok : REnv.Ok prog (tab (strings_Builder_WriteByte_R)) := (REnv.nil _)
/-- (*strings.Builder).WriteByte -/
noncomputable def strings_Builder_WriteByte (b0 : Option Addr) (c1 : Int) (w : World) : Option ((Value × Unit) × World) :=
  bnd (strings_Builder_copyCheck b0 w) fun r_1 w_2 =>
  (b0).bind fun p_3 =>
  (ldS (p_3.add 1) w_2).bind fun v_4 =>
  bnd (bldS prog 25 1 #[(0, (.int .u8 c1))] w_2) fun s_5 w_6 =>
  bnd (apd prog 25 25 (.slice v_4.a v_4.len v_4.cap) (.slice s_5.a s_5.len s_5.cap) w_6) fun s_7 w_8 =>
  (b0).bind fun p_9 =>
  (stC (p_9.add 1) (.slice s_7.a s_7.len s_7.cap) w_8).bind fun w_10 =>
  some ((.nilIface, ()), w_10)
theorem strings_Builder_WriteByte_facts : FunFacts prog 77 f77 (bodyOf f77) [(0, .ptr), (1, .int .u8)] [(0, 17)] := ⟨func77, by kernel_rfl, by kernel_rfl, by kernel_rfl, by kernel_rfl, by kernel_rfl⟩
theorem strings_Builder_WriteByte_calls (x : TT [(0, .ptr), (1, .int .u8)]) (w : World) (y : TR [.val]) (w2 : World) (h : strings_Builder_WriteByte x.1 x.2.1 w = some (y, w2)) : Calls prog 77 (encA [(0, .ptr), (1, .int .u8)] x).toArray w (fun e w3 => e = .returned (resV (encR [.val] y)) ∧ w3 = w2) :=
    mk_fun (O := tabL []) (Lp := [(0, .ptr), (1, .int .u8)]) (Rt := [.val]) (S := (fun x w => strings_Builder_WriteByte x.1 x.2.1 w)) (strings_Builder_WriteByte_Eok) (strings_Builder_WriteByte_Rok) rfl strings_Builder_WriteByte_facts (Orc.nil _ _ _) (fun _ _ => by kernel_rfl) x w y w2 h
noncomputable def strings_Builder_WriteByte_ce : CE := funE [(0, .ptr), (1, .int .u8)] [.val] (fun x w => strings_Builder_WriteByte x.1 x.2.1 w)
theorem strings_Builder_WriteByte_ok : (strings_Builder_WriteByte_ce).Ok prog 77 := funE_ok (Rt := [.val]) (S := (fun x w => strings_Builder_WriteByte x.1 x.2.1 w)) strings_Builder_WriteByte_facts fun x w y w2 h => strings_Builder_WriteByte_calls x w y w2 h

noncomputable def strings_Builder_String_E : List (Nat × CE) := []
theorem strings_Builder_String_Eok : Env.Ok prog (tab (strings_Builder_String_E)) := (Env.nil _)
noncomputable def strings_Builder_String_R : List (Nat × RE) := []
theorem strings_Builder_String_Rok : REnv.Ok prog (tab (strings_Builder_String_R)) := (REnv.nil _)
noncomputable def strings_Builder_String_s0 (b0 : Option Addr) (a2 : ByteArray) (w : World) : Option ((ByteArray × Unit) × World) :=
  (b0).bind fun p_1 =>
  (b0).bind fun p_2 =>
  (ldS (p_1.add 1) w.drew).bind fun v_3 =>
  (ldS (p_2.add 1) w.drew).bind fun v_4 =>
  bnd (usSD prog #[25] 133 #[(.slice v_3.a v_3.len v_3.cap)] w.drew) fun s_5 w_6 =>
  (ldS (p_2.add 1) w_6).bind fun v_7 =>
  sameK (.slice v_4.a v_4.len v_4.cap) (.slice v_7.a v_7.len v_7.cap) ((ldS (p_1.add 1) w_6).bind fun v_8 =>
  sameK (.slice v_3.a v_3.len v_3.cap) (.slice v_8.a v_8.len v_8.cap) (bnd (usS prog #[133, 3] 9 #[s_5, (.int .i64 ((v_4.len : Nat) : Int))] w_6) fun s_9 w_10 =>
  (ldS (p_2.add 1) w_10).bind fun v_11 =>
  sameK (.slice v_4.a v_4.len v_4.cap) (.slice v_11.a v_11.len v_11.cap) ((ldS (p_1.add 1) w_10).bind fun v_12 =>
  sameK (.slice v_3.a v_3.len v_3.cap) (.slice v_12.a v_12.len v_12.cap) (some ((s_9, ()), w_10)))))
/-- (*strings.Builder).String -/
noncomputable def strings_Builder_String (b0 : Option Addr) (w : World) : Option ((ByteArray × Unit) × World) :=
  bnd (strings_Builder_String_s0 b0 str0 w) fun y_13 w_14 =>
  some ((y_13.1, ()), w_14)
theorem strings_Builder_String_s0_ok : StmtNOk prog [(0, .ptr), (2, .str)] [(2, .str)] [(2, 14)] (fun x w => strings_Builder_String_s0 x.1 x.2.1 w) (cd (bodyOf f78) [1, 0]) :=
    mk_regionH (R := [(2, 14)]) (Li := [(0, .ptr), (2, .str)]) (Lo := [(2, .str)]) (S := (fun x w => strings_Builder_String_s0 x.1 x.2.1 w)) (strings_Builder_String_Eok) (strings_Builder_String_Rok) rfl (fun _ _ => by kernel_rfl)
noncomputable def strings_Builder_String_s0_se : SE := stmtN [(0, .ptr), (2, .str)] [(2, .str)] [(2, 14)] (fun x w => strings_Builder_String_s0 x.1 x.2.1 w)
theorem strings_Builder_String_s0_se_ok (R : Rg) (h : subRB [(2, 14)] R = true) : (strings_Builder_String_s0_se).Ok prog R (cd (bodyOf f78) [1, 0]) := stmtN_ok (Li := [(0, .ptr), (2, .str)]) (Lo := [(2, .str)]) (S := (fun x w => strings_Builder_String_s0 x.1 x.2.1 w)) (strings_Builder_String_s0_ok) (subR_of h)
theorem strings_Builder_String_facts : FunFacts prog 78 f78 (bodyOf f78) [(0, .ptr)] [(0, 14)] := ⟨func78, by kernel_rfl, by kernel_rfl, by kernel_rfl, by kernel_rfl, by kernel_rfl⟩
theorem strings_Builder_String_calls (x : TT [(0, .ptr)]) (w : World) (y : TR [.str]) (w2 : World) (h : strings_Builder_String x.1 w = some (y, w2)) : Calls prog 78 (encA [(0, .ptr)] x).toArray w (fun e w3 => e = .returned (resV (encR [.str] y)) ∧ w3 = w2) :=
    mk_fun (O := tabL [([1, 0], strings_Builder_String_s0_se)]) (Lp := [(0, .ptr)]) (Rt := [.str]) (S := (fun x w => strings_Builder_String x.1 w)) (strings_Builder_String_Eok) (strings_Builder_String_Rok) rfl strings_Builder_String_facts (Orc.cons (by kernel_rfl) (strings_Builder_String_s0_se_ok [(0, 14)] (by kernel_rfl)) (Orc.nil _ _ _)) (fun _ _ => by kernel_rfl) x w y w2 h
noncomputable def strings_Builder_String_ce : CE := funE [(0, .ptr)] [.str] (fun x w => strings_Builder_String x.1 w)
theorem strings_Builder_String_ok : (strings_Builder_String_ce).Ok prog 78 := funE_ok (Rt := [.str]) (S := (fun x w => strings_Builder_String x.1 w)) strings_Builder_String_facts fun x w y w2 h => strings_Builder_String_calls x w y w2 h

noncomputable def digest_Hex_E (K : Nat) : List (Nat × CE) := [(77, strings_Builder_WriteByte_ce), (78, strings_Builder_String_ce)]
theorem digest_Hex_Eok (K : Nat) : Env.Ok prog (tab (digest_Hex_E K)) := (Env.cons (strings_Builder_WriteByte_ok) (Env.cons (strings_Builder_String_ok) (Env.nil _)))
noncomputable def digest_Hex_R (K : Nat) : List (Nat × RE) := []
theorem digest_Hex_Rok (K : Nat) : REnv.Ok prog (tab (digest_Hex_R K)) := (REnv.nil _)
noncomputable def digest_Hex_l0_b (K : Nat) (rec : Addr → Sl → Int → Int → World → Option ((Unit) × World)) (out3 : Addr) (a9 : Sl) (a10 : Int) (a11 : Int) (w : World) : Option ((Unit) × World) :=
  if (decide (a11 < a10)) = true then ((a9.a).bind fun p_3 =>
  if (0 : Int) ≤ a11 ∧ a11 < ((a9.len : Nat) : Int) then ((ldI .u8 (p_3.add ((Int.toNat a11) * 1)) w).bind fun v_4 =>
  if (0 : Int) ≤ (Int.fdiv v_4 (2 ^ 4)) then ((str1[(Int.toNat (Int.fdiv v_4 (2 ^ 4)))]?).bind fun b_5 =>
  bnd (strings_Builder_WriteByte (some out3) ((b_5.toNat : Nat) : Int) w) fun r_6 w_7 =>
  if (0 : Int) ≤ (bits .and .u8 v_4 15) then ((str1[(Int.toNat (bits .and .u8 v_4 15))]?).bind fun b_8 =>
  bnd (strings_Builder_WriteByte (some out3) ((b_8.toNat : Nat) : Int) w_7) fun r_9 w_10 =>
  rec out3 a9 a10 (IntKind.i64.wrap (a11 + 1)) w_10) else none) else none) else none) else (some ((), w))
noncomputable def digest_Hex_l0 (K : Nat) (n : Nat) : Addr → Sl → Int → Int → World → Option ((Unit) × World) := iter (fun _ _ _ _ _ => none) (digest_Hex_l0_b K) n
/-- coffer/digest.Hex -/
noncomputable def digest_Hex (K : Nat) (b0 : Sl) (w : World) : Option ((ByteArray × Unit) × World) :=
  if (decide (((b0.len : Nat) : Int) > 8388608)) = true then (some ((str0, ()), w)) else (bnd (newB z105 105 w) fun out_1 w_2 =>
  bnd (digest_Hex_l0 K K out_1 b0 ((b0.len : Nat) : Int) 0 w_2) fun y_11 w_12 =>
  bnd (strings_Builder_String (some out_1) w_12) fun r_13 w_14 =>
  some ((r_13.1, ()), w_14))
theorem digest_Hex_l0_ok (K : Nat) (n : Nat) : StmtNOk prog [(3, .addr), (9, .sl), (10, .int .i64), (11, .int .i64)] [] [(5, 6), (11, 24)] ((fun n x w => digest_Hex_l0 K n x.1 x.2.1 x.2.2.1 x.2.2.2.1 w) n) (.block 0 (.loop (cd (bodyOf f48) [1, 1, 1, 0, 1, 0, 0]))) :=
    mk_loopN (O := tabL []) (root := (bodyOf f48)) (π := [1, 1, 1, 0, 1, 0, 0]) (id := 0) (Li := [(3, .addr), (9, .sl), (10, .int .i64), (11, .int .i64)]) (Lo := []) (S := (fun n x w => digest_Hex_l0 K n x.1 x.2.1 x.2.2.1 x.2.2.2.1 w)) (body := cd (bodyOf f48) [1, 1, 1, 0, 1, 0, 0]) (digest_Hex_Eok K) (digest_Hex_Rok K) rfl (Orc.nil _ _ _) (by kernel_rfl) (fun _ _ => by kernel_rfl) (fun _ _ _ => by kernel_rfl) n
noncomputable def digest_Hex_l0_se (K : Nat) : SE := stmtN [(3, .addr), (9, .sl), (10, .int .i64), (11, .int .i64)] [] [(5, 6), (11, 24)] (fun x w => digest_Hex_l0 K K x.1 x.2.1 x.2.2.1 x.2.2.2.1 w)
theorem digest_Hex_l0_se_ok (K : Nat) (R : Rg) (h : subRB [(5, 6), (11, 24)] R = true) : (digest_Hex_l0_se K).Ok prog R (.block 0 (.loop (cd (bodyOf f48) [1, 1, 1, 0, 1, 0, 0]))) := stmtN_ok (Li := [(3, .addr), (9, .sl), (10, .int .i64), (11, .int .i64)]) (Lo := []) (S := (fun x w => digest_Hex_l0 K K x.1 x.2.1 x.2.2.1 x.2.2.2.1 w)) (digest_Hex_l0_ok K K) (subR_of h)
theorem digest_Hex_facts : FunFacts prog 48 f48 (bodyOf f48) [(0, .sl)] [(0, 25)] := ⟨func48, by kernel_rfl, by kernel_rfl, by kernel_rfl, by kernel_rfl, by kernel_rfl⟩
theorem digest_Hex_calls (K : Nat) (x : TT [(0, .sl)]) (w : World) (y : TR [.str]) (w2 : World) (h : digest_Hex K x.1 w = some (y, w2)) : Calls prog 48 (encA [(0, .sl)] x).toArray w (fun e w3 => e = .returned (resV (encR [.str] y)) ∧ w3 = w2) :=
    mk_fun (O := tabL [([1, 1, 1, 0, 1], digest_Hex_l0_se K)]) (Lp := [(0, .sl)]) (Rt := [.str]) (S := (fun x w => digest_Hex K x.1 w)) (digest_Hex_Eok K) (digest_Hex_Rok K) rfl digest_Hex_facts (Orc.cons (by kernel_rfl) (digest_Hex_l0_se_ok K [(0, 25)] (by kernel_rfl)) (Orc.nil _ _ _)) (fun _ _ => by kernel_rfl) x w y w2 h
noncomputable def digest_Hex_ce (K : Nat) : CE := funE [(0, .sl)] [.str] (fun x w => digest_Hex K x.1 w)
theorem digest_Hex_ok (K : Nat) : (digest_Hex_ce K).Ok prog 48 := funE_ok (Rt := [.str]) (S := (fun x w => digest_Hex K x.1 w)) digest_Hex_facts fun x w y w2 h => digest_Hex_calls K x w y w2 h

end Go.Sh

/- What functions of the program do, as Lean functions; that the machine does just that. Printed by shal.py, a program of this claim's writer. -/
set_option maxRecDepth 100000
set_option linter.unusedVariables false
namespace Go.Sh
open Go.Fw Go.Proofs.Tryd

noncomputable def law01_DigestMost_E (K : Nat) : List (Nat × CE) := [(35, digest_Stretch_ce K), (48, digest_Hex_ce K)]
theorem law01_DigestMost_Eok (K : Nat) : Env.Ok prog (tab (law01_DigestMost_E K)) := (Env.cons (digest_Stretch_ok K) (Env.cons (digest_Hex_ok K) (Env.nil _)))
noncomputable def law01_DigestMost_R (K : Nat) : List (Nat × RE) := [(26, law01_num_re)]
theorem law01_DigestMost_Rok (K : Nat) : REnv.Ok prog (tab (law01_DigestMost_R K)) := (REnv.cons (law01_num_ok) (REnv.nil _))
noncomputable def law01_DigestMost_s0 (K : Nat) (a1 : Sl) (e2 : Int) (b3 : Sl) (f4 : Int) (w : World) : Option ((Bool × Unit) × World) :=
  (law01_num e2).bind fun r_25 =>
  if (r_25.1 != 0) = true then (some ((true, ()), w)) else ((law01_num f4).bind fun r_26 =>
  if (r_26.1 != 0) = true then (some ((true, ()), w)) else (bnd (digest_Hex K a1 w) fun r_27 w_28 =>
  if (!(r_27.1.toList == str2.toList)) = true then (some ((true, ()), w_28)) else (bnd (digest_Hex K b3 w_28) fun r_29 w_30 =>
  some (((!(r_29.1.toList == str3.toList)), ()), w_30))))
/-- coffer/cofferlaw01.DigestMost -/
noncomputable def law01_DigestMost (K : Nat)  (w : World) : Option ((Bool × Unit) × World) :=
  bnd (bldS prog 25 8 #[(0, (.int .u8 112)), (1, (.int .u8 97)), (2, (.int .u8 115)), (3, (.int .u8 115)), (4, (.int .u8 119)), (5, (.int .u8 111)), (6, (.int .u8 114)), (7, (.int .u8 100))] w) fun s_1 w_2 =>
  bnd (cnv prog 25 25 (.slice s_1.a s_1.len s_1.cap) w_2) fun c_3 w_4 =>
  (asS c_3).bind fun v_5 =>
  bnd (bldS prog 25 4 #[(0, (.int .u8 115)), (1, (.int .u8 97)), (2, (.int .u8 108)), (3, (.int .u8 116))] w_4) fun s_6 w_7 =>
  bnd (cnv prog 25 25 (.slice s_6.a s_6.len s_6.cap) w_7) fun c_8 w_9 =>
  (asS c_8).bind fun v_10 =>
  bnd (digest_Stretch K 256 v_5 v_10 4096 32 w_9) fun r_11 w_12 =>
  bnd (bldS prog 25 8 #[(0, (.int .u8 112)), (1, (.int .u8 97)), (2, (.int .u8 115)), (3, (.int .u8 115)), (4, (.int .u8 119)), (5, (.int .u8 111)), (6, (.int .u8 114)), (7, (.int .u8 100))] w_12) fun s_13 w_14 =>
  bnd (cnv prog 25 25 (.slice s_13.a s_13.len s_13.cap) w_14) fun c_15 w_16 =>
  (asS c_15).bind fun v_17 =>
  bnd (bldS prog 25 4 #[(0, (.int .u8 115)), (1, (.int .u8 97)), (2, (.int .u8 108)), (3, (.int .u8 116))] w_16) fun s_18 w_19 =>
  bnd (cnv prog 25 25 (.slice s_18.a s_18.len s_18.cap) w_19) fun c_20 w_21 =>
  (asS c_20).bind fun v_22 =>
  bnd (digest_Stretch K 256 v_17 v_22 1048576 32 w_21) fun r_23 w_24 =>
  bnd (law01_DigestMost_s0 K r_11.1 r_11.2.1 r_23.1 r_23.2.1 w_24) fun y_31 w_32 =>
  if y_31.1 = true then (some ((false, ()), w_32)) else (bnd (digest_Stretch K 256 ⟨none, 0, 0⟩ ⟨none, 0, 0⟩ 1048576 65 w_32) fun r_33 w_34 =>
  bnd (digest_Stretch K 512 ⟨none, 0, 0⟩ ⟨none, 0, 0⟩ 699051 129 w_34) fun r_35 w_36 =>
  (law01_num r_33.2.1).bind fun r_37 =>
  if (r_37.1 == 12) = true then ((law01_num r_35.2.1).bind fun r_38 =>
  if (r_38.1 == 12) = true then (some ((((IntKind.i64.wrap (((r_33.1.len : Nat) : Int) + ((r_35.1.len : Nat) : Int))) == 0), ()), w_36)) else (some ((false, ()), w_36))) else (some ((false, ()), w_36)))
theorem law01_DigestMost_s0_ok (K : Nat) : StmtNOk prog [(1, .sl), (2, .int .i64), (3, .sl), (4, .int .i64)] [(40, .bool)] [(23, 41)] (fun x w => law01_DigestMost_s0 K x.1 x.2.1 x.2.2.1 x.2.2.2.1 w) (cd (bodyOf f9) [1, 1, 1, 0, 0]) :=
    mk_stmtN (O := tabL []) (root := (bodyOf f9)) (π := [1, 1, 1, 0, 0]) (Li := [(1, .sl), (2, .int .i64), (3, .sl), (4, .int .i64)]) (Lo := [(40, .bool)]) (S := (fun x w => law01_DigestMost_s0 K x.1 x.2.1 x.2.2.1 x.2.2.2.1 w)) (law01_DigestMost_Eok K) (law01_DigestMost_Rok K) rfl (Orc.nil _ _ _) (by kernel_rfl) (fun _ _ => by kernel_rfl)
noncomputable def law01_DigestMost_s0_se (K : Nat) : SE := stmtN [(1, .sl), (2, .int .i64), (3, .sl), (4, .int .i64)] [(40, .bool)] [(23, 41)] (fun x w => law01_DigestMost_s0 K x.1 x.2.1 x.2.2.1 x.2.2.2.1 w)
theorem law01_DigestMost_s0_se_ok (K : Nat) (R : Rg) (h : subRB [(23, 41)] R = true) : (law01_DigestMost_s0_se K).Ok prog R (cd (bodyOf f9) [1, 1, 1, 0, 0]) := stmtN_ok (Li := [(1, .sl), (2, .int .i64), (3, .sl), (4, .int .i64)]) (Lo := [(40, .bool)]) (S := (fun x w => law01_DigestMost_s0 K x.1 x.2.1 x.2.2.1 x.2.2.2.1 w)) (law01_DigestMost_s0_ok K) (subR_of h)
theorem law01_DigestMost_facts : FunFacts prog 9 f9 (bodyOf f9) [] [(0, 65)] := ⟨func9, by kernel_rfl, by kernel_rfl, by kernel_rfl, by kernel_rfl, by kernel_rfl⟩
theorem law01_DigestMost_calls (K : Nat) (x : TT []) (w : World) (y : TR [.bool]) (w2 : World) (h : law01_DigestMost K  w = some (y, w2)) : Calls prog 9 (encA [] x).toArray w (fun e w3 => e = .returned (resV (encR [.bool] y)) ∧ w3 = w2) :=
    mk_fun (O := tabL [([1, 1, 1, 0, 0], law01_DigestMost_s0_se K)]) (Lp := []) (Rt := [.bool]) (S := (fun x w => law01_DigestMost K  w)) (law01_DigestMost_Eok K) (law01_DigestMost_Rok K) rfl law01_DigestMost_facts (Orc.cons (by kernel_rfl) (law01_DigestMost_s0_se_ok K [(0, 65)] (by kernel_rfl)) (Orc.nil _ _ _)) (fun _ _ => by kernel_rfl) x w y w2 h
noncomputable def law01_DigestMost_ce (K : Nat) : CE := funE [] [.bool] (fun x w => law01_DigestMost K  w)
theorem law01_DigestMost_ok (K : Nat) : (law01_DigestMost_ce K).Ok prog 9 := funE_ok (Rt := [.bool]) (S := (fun x w => law01_DigestMost K  w)) law01_DigestMost_facts fun x w y w2 h => law01_DigestMost_calls K x w y w2 h

noncomputable def law01_known_R : List (Nat × RE) := []
theorem law01_known_Rok : REnv.Ok prog (tab (law01_known_R)) := (REnv.nil _)
/-- coffer/cofferlaw01.known -/
noncomputable def law01_known (hash0 : Int) : Option (Bool × Unit) :=
  if (hash0 == 224) = true then (some (true, ())) else (if (hash0 == 256) = true then (some (true, ())) else (if (hash0 == 384) = true then (some (true, ())) else (some ((hash0 == 512), ()))))
theorem law01_known_facts : FunFacts prog 49 f49 (bodyOf f49) [(0, .int .i64)] [(0, 17)] := ⟨func49, by kernel_rfl, by kernel_rfl, by kernel_rfl, by kernel_rfl, by kernel_rfl⟩
theorem law01_known_calls (x : TT [(0, .int .i64)]) (w : World) (y : TR [.bool]) (h : law01_known x.1 = some y) : Calls prog 49 (encA [(0, .int .i64)] x).toArray w (fun e w3 => e = .returned (resV (encR [.bool] y)) ∧ w3 = w) :=
    mk_funQ (O := tabL []) (Lp := [(0, .int .i64)]) (Rt := [.bool]) (S := (fun x w => law01_known x.1)) (law01_known_Rok) law01_known_facts (OrcQ.nil _ _ _) (fun _ _ => by kernel_rfl) x w y h
noncomputable def law01_known_re : RE := funR [(0, .int .i64)] [.bool] (fun x w => law01_known x.1)
theorem law01_known_ok : (law01_known_re).Ok prog 49 := funR_ok (Rt := [.bool]) (S := (fun x w => law01_known x.1)) law01_known_facts fun x w y h => law01_known_calls x w y h

noncomputable def digest_Mac_Reset_E : List (Nat × CE) := []
theorem digest_Mac_Reset_Eok : Env.Ok prog (tab (digest_Mac_Reset_E)) := (Env.nil _)
noncomputable def digest_Mac_Reset_R : List (Nat × RE) := []
theorem digest_Mac_Reset_Rok : REnv.Ok prog (tab (digest_Mac_Reset_R)) := (REnv.nil _)
/-- (*coffer/digest.Mac).Reset -/
noncomputable def digest_Mac_Reset (m0 : Option Addr) (w : World) : Option ((Int × Unit) × World) :=
  if m0.isNone = true then (some ((1, ()), w)) else ((m0).bind fun p_1 =>
  (ldA 284 (p_1.add 284) w).bind fun v_2 =>
  (m0).bind fun p_3 =>
  if (v_2).size = 284 then ((stA (p_3.add 0) v_2 w).bind fun w_4 =>
  some ((0, ()), w_4)) else none)
theorem digest_Mac_Reset_facts : FunFacts prog 50 f50 (bodyOf f50) [(0, .ptr)] [(0, 12)] := ⟨func50, by kernel_rfl, by kernel_rfl, by kernel_rfl, by kernel_rfl, by kernel_rfl⟩
theorem digest_Mac_Reset_calls (x : TT [(0, .ptr)]) (w : World) (y : TR [.int .i64]) (w2 : World) (h : digest_Mac_Reset x.1 w = some (y, w2)) : Calls prog 50 (encA [(0, .ptr)] x).toArray w (fun e w3 => e = .returned (resV (encR [.int .i64] y)) ∧ w3 = w2) :=
    mk_fun (O := tabL []) (Lp := [(0, .ptr)]) (Rt := [.int .i64]) (S := (fun x w => digest_Mac_Reset x.1 w)) (digest_Mac_Reset_Eok) (digest_Mac_Reset_Rok) rfl digest_Mac_Reset_facts (Orc.nil _ _ _) (fun _ _ => by kernel_rfl) x w y w2 h
noncomputable def digest_Mac_Reset_ce : CE := funE [(0, .ptr)] [.int .i64] (fun x w => digest_Mac_Reset x.1 w)
theorem digest_Mac_Reset_ok : (digest_Mac_Reset_ce).Ok prog 50 := funE_ok (Rt := [.int .i64]) (S := (fun x w => digest_Mac_Reset x.1 w)) digest_Mac_Reset_facts fun x w y w2 h => digest_Mac_Reset_calls x w y w2 h

noncomputable def law01_DigestKeys_E (K : Nat) : List (Nat × CE) := [(20, digest_Block_ce), (31, digest_Code_ce K), (24, digest_Sum_ce K), (41, digest_NewMac_ce K), (27, book_SameBytes_ce K), (43, digest_Mac_Write_ce K), (50, digest_Mac_Reset_ce), (45, digest_Mac_Sum_ce K)]
theorem law01_DigestKeys_Eok (K : Nat) : Env.Ok prog (tab (law01_DigestKeys_E K)) := (Env.cons (digest_Block_ok) (Env.cons (digest_Code_ok K) (Env.cons (digest_Sum_ok K) (Env.cons (digest_NewMac_ok K) (Env.cons (book_SameBytes_ok K) (Env.cons (digest_Mac_Write_ok K) (Env.cons (digest_Mac_Reset_ok) (Env.cons (digest_Mac_Sum_ok K) (Env.nil _)))))))))
noncomputable def law01_DigestKeys_R (K : Nat) : List (Nat × RE) := [(49, law01_known_re), (26, law01_num_re)]
theorem law01_DigestKeys_Rok (K : Nat) : REnv.Ok prog (tab (law01_DigestKeys_R K)) := (REnv.cons (law01_known_ok) (REnv.cons (law01_num_ok) (REnv.nil _)))
noncomputable def law01_DigestKeys_s0 (K : Nat) (hash3 : Int) (key4 : Sl) (b5 : Sl) (w : World) : Option ((Bool × Unit) × World) :=
  (law01_known hash3).bind fun r_7 =>
  if (!r_7.1) = true then (some ((true, ()), w)) else (if (decide (((b5.len : Nat) : Int) > 65536)) = true then (some ((true, ()), w)) else (some (((decide (((key4.len : Nat) : Int) > 65536)), ()), w)))
noncomputable def law01_DigestKeys_s1 (K : Nat) (hash3 : Int) (block7 : Int) (code8 : Sl) (e9 : Int) (w : World) : Option ((Bool × Unit) × World) :=
  (law01_num e9).bind fun r_16 =>
  if (r_16.1 != 0) = true then (some ((true, ()), w)) else (if (((code8.len : Nat) : Int) != (IntKind.i64.wrap (Int.tdiv hash3 8))) = true then (some ((true, ()), w)) else (if (block7 != 64) = true then (some (((block7 != 128), ()), w)) else (some ((false, ()), w))))
noncomputable def law01_DigestKeys_s4 (K : Nat) (zeros6 : Int) (block7 : Int) (other10 : Sl) (i11 : Int) (w : World) : Option ((Bool × Unit) × World) :=
  if (decide (i11 < zeros6)) = true then (some (((decide (((other10.len : Nat) : Int) < block7)), ()), w)) else (some ((false, ()), w))
noncomputable def law01_DigestKeys_l3_b (K : Nat) (rec : Int → Int → Int → Int → Sl → Int → World → Option ((Sl × Unit) × World)) (hash3 : Int) (zeros6 : Int) (block7 : Int) (e9 : Int) (other10 : Sl) (i11 : Int) (w : World) : Option ((Sl × Unit) × World) :=
  bnd (law01_DigestKeys_s4 K zeros6 block7 other10 i11 w) fun y_25 w_26 =>
  if y_25.1 = true then (bnd (bldS prog 25 1 #[(0, (.int .u8 0))] w_26) fun s_27 w_28 =>
  bnd (apd prog 25 25 (.slice other10.a other10.len other10.cap) (.slice s_27.a s_27.len s_27.cap) w_28) fun s_29 w_30 =>
  rec hash3 zeros6 block7 e9 s_29 (IntKind.i64.wrap (i11 + 1)) w_30) else (some ((other10, ()), w_26))
noncomputable def law01_DigestKeys_l3 (K : Nat) (n : Nat) : Int → Int → Int → Int → Sl → Int → World → Option ((Sl × Unit) × World) := iter (fun _ _ _ _ _ _ _ => none) (law01_DigestKeys_l3_b K) n
noncomputable def law01_DigestKeys_s2 (K : Nat) (hash3 : Int) (key4 : Sl) (zeros6 : Int) (block7 : Int) (e9 : Int) (other10 : Sl) (a68 : Bool) (w : World) : Option ((Int × Sl × Unit) × World) :=
  if a68 = true then (bnd (bldS prog 24 1 #[(0, (.slice key4.a key4.len key4.cap))] w) fun s_19 w_20 =>
  bnd (digest_Sum K hash3 s_19 w_20) fun r_21 w_22 =>
  some ((r_21.2.1, r_21.1, ()), w_22)) else (bnd (apd prog 25 25 (.slice other10.a other10.len other10.cap) (.slice key4.a key4.len key4.cap) w) fun s_23 w_24 =>
  bnd (law01_DigestKeys_l3 K K hash3 zeros6 block7 e9 s_23 0 w_24) fun y_31 w_32 =>
  some ((e9, y_31.1, ()), w_32))
noncomputable def law01_DigestKeys_s5 (K : Nat) (code8 : Sl) (e9 : Int) (again12 : Sl) (f13 : Int) (m14 : Option Addr) (g15 : Int) (w : World) : Option ((Bool × Unit) × World) :=
  (law01_num e9).bind fun r_41 =>
  if (r_41.1 != 0) = true then (some ((true, ()), w)) else ((law01_num f13).bind fun r_42 =>
  if (r_42.1 != 0) = true then (some ((true, ()), w)) else ((law01_num g15).bind fun r_43 =>
  if (r_43.1 != 0) = true then (some ((true, ()), w)) else (if m14.isNone = true then (some ((true, ()), w)) else (bnd (book_SameBytes K code8 again12 w) fun r_44 w_45 =>
  some (((!r_44.1), ()), w_45)))))
noncomputable def law01_DigestKeys_s6 (K : Nat) (b5 : Sl) (m14 : Option Addr) (w : World) : Option ((Bool × Unit) × World) :=
  bnd (bldS prog 25 3 #[(0, (.int .u8 1)), (1, (.int .u8 2)), (2, (.int .u8 3))] w) fun s_48 w_49 =>
  bnd (bldS prog 24 1 #[(0, (.slice s_48.a s_48.len s_48.cap))] w_49) fun s_50 w_51 =>
  bnd (digest_Mac_Write K m14 s_50 w_51) fun r_52 w_53 =>
  (law01_num r_52.1).bind fun r_54 =>
  if (r_54.1 != 0) = true then (some ((true, ()), w_53)) else (bnd (digest_Mac_Reset m14 w_53) fun r_55 w_56 =>
  (law01_num r_55.1).bind fun r_57 =>
  if (r_57.1 != 0) = true then (some ((true, ()), w_56)) else (bnd (bldS prog 24 1 #[(0, (.slice b5.a b5.len b5.cap))] w_56) fun s_58 w_59 =>
  bnd (digest_Mac_Write K m14 s_58 w_59) fun r_60 w_61 =>
  (law01_num r_60.1).bind fun r_62 =>
  some (((r_62.1 != 0), ()), w_61)))
/-- coffer/cofferlaw01.DigestKeys -/
noncomputable def law01_DigestKeys (K : Nat) (c0 : Array Value) (w : World) : Option ((Bool × Unit) × World) :=
  bnd (newB c0 64 w) fun p_1 w_2 =>
  (ldI .i64 (p_1.add 0) w_2).bind fun v_3 =>
  (ldS (p_1.add 1) w_2).bind fun v_4 =>
  (ldS (p_1.add 2) w_2).bind fun v_5 =>
  (ldI .i64 (p_1.add 4) w_2).bind fun v_6 =>
  bnd (law01_DigestKeys_s0 K v_3 v_4 v_5 w_2) fun y_8 w_9 =>
  if y_8.1 = true then (some ((true, ()), w_9)) else (bnd (digest_Block v_3 w_9) fun r_10 w_11 =>
  bnd (bldS prog 24 1 #[(0, (.slice v_5.a v_5.len v_5.cap))] w_11) fun s_12 w_13 =>
  bnd (digest_Code K v_3 v_4 s_12 w_13) fun r_14 w_15 =>
  bnd (law01_DigestKeys_s1 K v_3 r_10.1 r_14.1 r_14.2.1 w_15) fun y_17 w_18 =>
  if y_17.1 = true then (some ((false, ()), w_18)) else (bnd (law01_DigestKeys_s2 K v_3 v_4 v_6 r_10.1 r_14.2.1 ⟨none, 0, 0⟩ (decide (((v_4.len : Nat) : Int) > r_10.1)) w_18) fun y_33 w_34 =>
  bnd (bldS prog 24 1 #[(0, (.slice v_5.a v_5.len v_5.cap))] w_34) fun s_35 w_36 =>
  bnd (digest_Code K v_3 y_33.2.1 s_35 w_36) fun r_37 w_38 =>
  bnd (digest_NewMac K v_3 y_33.2.1 w_38) fun r_39 w_40 =>
  bnd (law01_DigestKeys_s5 K r_14.1 y_33.1 r_37.1 r_37.2.1 r_39.1 r_39.2.1 w_40) fun y_46 w_47 =>
  if y_46.1 = true then (some ((false, ()), w_47)) else (bnd (law01_DigestKeys_s6 K v_5 r_39.1 w_47) fun y_63 w_64 =>
  if y_63.1 = true then (some ((false, ()), w_64)) else (bnd (digest_Mac_Sum K r_39.1 w_64) fun r_65 w_66 =>
  bnd (book_SameBytes K r_65.1 r_14.1 w_66) fun r_67 w_68 =>
  some ((r_67.1, ()), w_68)))))
theorem law01_DigestKeys_s0_ok (K : Nat) : StmtNOk prog [(3, .int .i64), (4, .sl), (5, .sl)] [(36, .bool)] [(24, 37)] (fun x w => law01_DigestKeys_s0 K x.1 x.2.1 x.2.2.1 w) (cd (bodyOf f10) [1, 1, 1, 1, 1, 0, 0]) :=
    mk_stmtN (O := tabL []) (root := (bodyOf f10)) (π := [1, 1, 1, 1, 1, 0, 0]) (Li := [(3, .int .i64), (4, .sl), (5, .sl)]) (Lo := [(36, .bool)]) (S := (fun x w => law01_DigestKeys_s0 K x.1 x.2.1 x.2.2.1 w)) (law01_DigestKeys_Eok K) (law01_DigestKeys_Rok K) rfl (Orc.nil _ _ _) (by kernel_rfl) (fun _ _ => by kernel_rfl)
noncomputable def law01_DigestKeys_s0_se (K : Nat) : SE := stmtN [(3, .int .i64), (4, .sl), (5, .sl)] [(36, .bool)] [(24, 37)] (fun x w => law01_DigestKeys_s0 K x.1 x.2.1 x.2.2.1 w)
theorem law01_DigestKeys_s0_se_ok (K : Nat) (R : Rg) (h : subRB [(24, 37)] R = true) : (law01_DigestKeys_s0_se K).Ok prog R (cd (bodyOf f10) [1, 1, 1, 1, 1, 0, 0]) := stmtN_ok (Li := [(3, .int .i64), (4, .sl), (5, .sl)]) (Lo := [(36, .bool)]) (S := (fun x w => law01_DigestKeys_s0 K x.1 x.2.1 x.2.2.1 w)) (law01_DigestKeys_s0_ok K) (subR_of h)
theorem law01_DigestKeys_s1_ok (K : Nat) : StmtNOk prog [(3, .int .i64), (7, .int .i64), (8, .sl), (9, .int .i64)] [(64, .bool)] [(47, 65)] (fun x w => law01_DigestKeys_s1 K x.1 x.2.1 x.2.2.1 x.2.2.2.1 w) (cd (bodyOf f10) [1, 1, 1, 1, 1, 1, 1, 1, 0, 0]) :=
    mk_stmtN (O := tabL []) (root := (bodyOf f10)) (π := [1, 1, 1, 1, 1, 1, 1, 1, 0, 0]) (Li := [(3, .int .i64), (7, .int .i64), (8, .sl), (9, .int .i64)]) (Lo := [(64, .bool)]) (S := (fun x w => law01_DigestKeys_s1 K x.1 x.2.1 x.2.2.1 x.2.2.2.1 w)) (law01_DigestKeys_Eok K) (law01_DigestKeys_Rok K) rfl (Orc.nil _ _ _) (by kernel_rfl) (fun _ _ => by kernel_rfl)
noncomputable def law01_DigestKeys_s1_se (K : Nat) : SE := stmtN [(3, .int .i64), (7, .int .i64), (8, .sl), (9, .int .i64)] [(64, .bool)] [(47, 65)] (fun x w => law01_DigestKeys_s1 K x.1 x.2.1 x.2.2.1 x.2.2.2.1 w)
theorem law01_DigestKeys_s1_se_ok (K : Nat) (R : Rg) (h : subRB [(47, 65)] R = true) : (law01_DigestKeys_s1_se K).Ok prog R (cd (bodyOf f10) [1, 1, 1, 1, 1, 1, 1, 1, 0, 0]) := stmtN_ok (Li := [(3, .int .i64), (7, .int .i64), (8, .sl), (9, .int .i64)]) (Lo := [(64, .bool)]) (S := (fun x w => law01_DigestKeys_s1 K x.1 x.2.1 x.2.2.1 x.2.2.2.1 w)) (law01_DigestKeys_s1_ok K) (subR_of h)
theorem law01_DigestKeys_s4_ok (K : Nat) : StmtNOk prog [(6, .int .i64), (7, .int .i64), (10, .sl), (11, .int .i64)] [(87, .bool)] [(79, 88)] (fun x w => law01_DigestKeys_s4 K x.1 x.2.1 x.2.2.1 x.2.2.2.1 w) (cd (bodyOf f10) [1, 1, 1, 1, 1, 1, 1, 1, 1, 1, 0, 1, 1, 1, 1, 0, 0, 0, 0]) :=
    mk_stmtN (O := tabL []) (root := (bodyOf f10)) (π := [1, 1, 1, 1, 1, 1, 1, 1, 1, 1, 0, 1, 1, 1, 1, 0, 0, 0, 0]) (Li := [(6, .int .i64), (7, .int .i64), (10, .sl), (11, .int .i64)]) (Lo := [(87, .bool)]) (S := (fun x w => law01_DigestKeys_s4 K x.1 x.2.1 x.2.2.1 x.2.2.2.1 w)) (law01_DigestKeys_Eok K) (law01_DigestKeys_Rok K) rfl (Orc.nil _ _ _) (by kernel_rfl) (fun _ _ => by kernel_rfl)
noncomputable def law01_DigestKeys_s4_se (K : Nat) : SE := stmtN [(6, .int .i64), (7, .int .i64), (10, .sl), (11, .int .i64)] [(87, .bool)] [(79, 88)] (fun x w => law01_DigestKeys_s4 K x.1 x.2.1 x.2.2.1 x.2.2.2.1 w)
theorem law01_DigestKeys_s4_se_ok (K : Nat) (R : Rg) (h : subRB [(79, 88)] R = true) : (law01_DigestKeys_s4_se K).Ok prog R (cd (bodyOf f10) [1, 1, 1, 1, 1, 1, 1, 1, 1, 1, 0, 1, 1, 1, 1, 0, 0, 0, 0]) := stmtN_ok (Li := [(6, .int .i64), (7, .int .i64), (10, .sl), (11, .int .i64)]) (Lo := [(87, .bool)]) (S := (fun x w => law01_DigestKeys_s4 K x.1 x.2.1 x.2.2.1 x.2.2.2.1 w)) (law01_DigestKeys_s4_ok K) (subR_of h)
theorem law01_DigestKeys_l3_ok (K : Nat) (n : Nat) : StmtNOk prog [(3, .int .i64), (6, .int .i64), (7, .int .i64), (9, .int .i64), (10, .sl), (11, .int .i64)] [(10, .sl)] [(10, 12), (79, 93)] ((fun n x w => law01_DigestKeys_l3 K n x.1 x.2.1 x.2.2.1 x.2.2.2.1 x.2.2.2.2.1 x.2.2.2.2.2.1 w) n) (.block 0 (.loop (cd (bodyOf f10) [1, 1, 1, 1, 1, 1, 1, 1, 1, 1, 0, 1, 1, 1, 1, 0, 0]))) :=
    mk_loopN (O := tabL [([1, 1, 1, 1, 1, 1, 1, 1, 1, 1, 0, 1, 1, 1, 1, 0, 0, 0, 0], law01_DigestKeys_s4_se K)]) (root := (bodyOf f10)) (π := [1, 1, 1, 1, 1, 1, 1, 1, 1, 1, 0, 1, 1, 1, 1, 0, 0]) (id := 0) (Li := [(3, .int .i64), (6, .int .i64), (7, .int .i64), (9, .int .i64), (10, .sl), (11, .int .i64)]) (Lo := [(10, .sl)]) (S := (fun n x w => law01_DigestKeys_l3 K n x.1 x.2.1 x.2.2.1 x.2.2.2.1 x.2.2.2.2.1 x.2.2.2.2.2.1 w)) (body := cd (bodyOf f10) [1, 1, 1, 1, 1, 1, 1, 1, 1, 1, 0, 1, 1, 1, 1, 0, 0]) (law01_DigestKeys_Eok K) (law01_DigestKeys_Rok K) rfl (Orc.cons (by kernel_rfl) (law01_DigestKeys_s4_se_ok K [(10, 12), (79, 93)] (by kernel_rfl)) (Orc.nil _ _ _)) (by kernel_rfl) (fun _ _ => by kernel_rfl) (fun _ _ _ => by kernel_rfl) n
noncomputable def law01_DigestKeys_l3_se (K : Nat) : SE := stmtN [(3, .int .i64), (6, .int .i64), (7, .int .i64), (9, .int .i64), (10, .sl), (11, .int .i64)] [(10, .sl)] [(10, 12), (79, 93)] (fun x w => law01_DigestKeys_l3 K K x.1 x.2.1 x.2.2.1 x.2.2.2.1 x.2.2.2.2.1 x.2.2.2.2.2.1 w)
theorem law01_DigestKeys_l3_se_ok (K : Nat) (R : Rg) (h : subRB [(10, 12), (79, 93)] R = true) : (law01_DigestKeys_l3_se K).Ok prog R (.block 0 (.loop (cd (bodyOf f10) [1, 1, 1, 1, 1, 1, 1, 1, 1, 1, 0, 1, 1, 1, 1, 0, 0]))) := stmtN_ok (Li := [(3, .int .i64), (6, .int .i64), (7, .int .i64), (9, .int .i64), (10, .sl), (11, .int .i64)]) (Lo := [(10, .sl)]) (S := (fun x w => law01_DigestKeys_l3 K K x.1 x.2.1 x.2.2.1 x.2.2.2.1 x.2.2.2.2.1 x.2.2.2.2.2.1 w)) (law01_DigestKeys_l3_ok K K) (subR_of h)
theorem law01_DigestKeys_s2_ok (K : Nat) : StmtNOk prog [(3, .int .i64), (4, .sl), (6, .int .i64), (7, .int .i64), (9, .int .i64), (10, .sl), (68, .bool)] [(9, .int .i64), (10, .sl)] [(9, 12), (69, 93)] (fun x w => law01_DigestKeys_s2 K x.1 x.2.1 x.2.2.1 x.2.2.2.1 x.2.2.2.2.1 x.2.2.2.2.2.1 x.2.2.2.2.2.2.1 w) (cd (bodyOf f10) [1, 1, 1, 1, 1, 1, 1, 1, 1, 1, 0, 1]) :=
    mk_stmtN (O := tabL [([1, 1, 1, 1, 1, 1, 1, 1, 1, 1, 0, 1, 1, 1, 1], law01_DigestKeys_l3_se K), ([1, 1, 1, 1, 1, 1, 1, 1, 1, 1, 0, 1, 1, 1, 1, 0, 0, 0, 0], law01_DigestKeys_s4_se K)]) (root := (bodyOf f10)) (π := [1, 1, 1, 1, 1, 1, 1, 1, 1, 1, 0, 1]) (Li := [(3, .int .i64), (4, .sl), (6, .int .i64), (7, .int .i64), (9, .int .i64), (10, .sl), (68, .bool)]) (Lo := [(9, .int .i64), (10, .sl)]) (S := (fun x w => law01_DigestKeys_s2 K x.1 x.2.1 x.2.2.1 x.2.2.2.1 x.2.2.2.2.1 x.2.2.2.2.2.1 x.2.2.2.2.2.2.1 w)) (law01_DigestKeys_Eok K) (law01_DigestKeys_Rok K) rfl (Orc.cons (by kernel_rfl) (law01_DigestKeys_l3_se_ok K [(9, 12), (69, 93)] (by kernel_rfl)) (Orc.cons (by kernel_rfl) (law01_DigestKeys_s4_se_ok K [(9, 12), (69, 93)] (by kernel_rfl)) (Orc.nil _ _ _))) (by kernel_rfl) (fun _ _ => by kernel_rfl)
noncomputable def law01_DigestKeys_s2_se (K : Nat) : SE := stmtN [(3, .int .i64), (4, .sl), (6, .int .i64), (7, .int .i64), (9, .int .i64), (10, .sl), (68, .bool)] [(9, .int .i64), (10, .sl)] [(9, 12), (69, 93)] (fun x w => law01_DigestKeys_s2 K x.1 x.2.1 x.2.2.1 x.2.2.2.1 x.2.2.2.2.1 x.2.2.2.2.2.1 x.2.2.2.2.2.2.1 w)
theorem law01_DigestKeys_s2_se_ok (K : Nat) (R : Rg) (h : subRB [(9, 12), (69, 93)] R = true) : (law01_DigestKeys_s2_se K).Ok prog R (cd (bodyOf f10) [1, 1, 1, 1, 1, 1, 1, 1, 1, 1, 0, 1]) := stmtN_ok (Li := [(3, .int .i64), (4, .sl), (6, .int .i64), (7, .int .i64), (9, .int .i64), (10, .sl), (68, .bool)]) (Lo := [(9, .int .i64), (10, .sl)]) (S := (fun x w => law01_DigestKeys_s2 K x.1 x.2.1 x.2.2.1 x.2.2.2.1 x.2.2.2.2.1 x.2.2.2.2.2.1 x.2.2.2.2.2.2.1 w)) (law01_DigestKeys_s2_ok K) (subR_of h)
theorem law01_DigestKeys_s5_ok (K : Nat) : StmtNOk prog [(8, .sl), (9, .int .i64), (12, .sl), (13, .int .i64), (14, .ptr), (15, .int .i64)] [(129, .bool)] [(107, 130)] (fun x w => law01_DigestKeys_s5 K x.1 x.2.1 x.2.2.1 x.2.2.2.1 x.2.2.2.2.1 x.2.2.2.2.2.1 w) (cd (bodyOf f10) [1, 1, 1, 1, 1, 1, 1, 1, 1, 1, 1, 1, 1, 0, 0]) :=
    mk_stmtN (O := tabL []) (root := (bodyOf f10)) (π := [1, 1, 1, 1, 1, 1, 1, 1, 1, 1, 1, 1, 1, 0, 0]) (Li := [(8, .sl), (9, .int .i64), (12, .sl), (13, .int .i64), (14, .ptr), (15, .int .i64)]) (Lo := [(129, .bool)]) (S := (fun x w => law01_DigestKeys_s5 K x.1 x.2.1 x.2.2.1 x.2.2.2.1 x.2.2.2.2.1 x.2.2.2.2.2.1 w)) (law01_DigestKeys_Eok K) (law01_DigestKeys_Rok K) rfl (Orc.nil _ _ _) (by kernel_rfl) (fun _ _ => by kernel_rfl)
noncomputable def law01_DigestKeys_s5_se (K : Nat) : SE := stmtN [(8, .sl), (9, .int .i64), (12, .sl), (13, .int .i64), (14, .ptr), (15, .int .i64)] [(129, .bool)] [(107, 130)] (fun x w => law01_DigestKeys_s5 K x.1 x.2.1 x.2.2.1 x.2.2.2.1 x.2.2.2.2.1 x.2.2.2.2.2.1 w)
theorem law01_DigestKeys_s5_se_ok (K : Nat) (R : Rg) (h : subRB [(107, 130)] R = true) : (law01_DigestKeys_s5_se K).Ok prog R (cd (bodyOf f10) [1, 1, 1, 1, 1, 1, 1, 1, 1, 1, 1, 1, 1, 0, 0]) := stmtN_ok (Li := [(8, .sl), (9, .int .i64), (12, .sl), (13, .int .i64), (14, .ptr), (15, .int .i64)]) (Lo := [(129, .bool)]) (S := (fun x w => law01_DigestKeys_s5 K x.1 x.2.1 x.2.2.1 x.2.2.2.1 x.2.2.2.2.1 x.2.2.2.2.2.1 w)) (law01_DigestKeys_s5_ok K) (subR_of h)
theorem law01_DigestKeys_s6_ok (K : Nat) : StmtNOk prog [(5, .sl), (14, .ptr)] [(149, .bool)] [(130, 150)] (fun x w => law01_DigestKeys_s6 K x.1 x.2.1 w) (cd (bodyOf f10) [1, 1, 1, 1, 1, 1, 1, 1, 1, 1, 1, 1, 1, 1, 0, 0]) :=
    mk_stmtN (O := tabL []) (root := (bodyOf f10)) (π := [1, 1, 1, 1, 1, 1, 1, 1, 1, 1, 1, 1, 1, 1, 0, 0]) (Li := [(5, .sl), (14, .ptr)]) (Lo := [(149, .bool)]) (S := (fun x w => law01_DigestKeys_s6 K x.1 x.2.1 w)) (law01_DigestKeys_Eok K) (law01_DigestKeys_Rok K) rfl (Orc.nil _ _ _) (by kernel_rfl) (fun _ _ => by kernel_rfl)
noncomputable def law01_DigestKeys_s6_se (K : Nat) : SE := stmtN [(5, .sl), (14, .ptr)] [(149, .bool)] [(130, 150)] (fun x w => law01_DigestKeys_s6 K x.1 x.2.1 w)
theorem law01_DigestKeys_s6_se_ok (K : Nat) (R : Rg) (h : subRB [(130, 150)] R = true) : (law01_DigestKeys_s6_se K).Ok prog R (cd (bodyOf f10) [1, 1, 1, 1, 1, 1, 1, 1, 1, 1, 1, 1, 1, 1, 0, 0]) := stmtN_ok (Li := [(5, .sl), (14, .ptr)]) (Lo := [(149, .bool)]) (S := (fun x w => law01_DigestKeys_s6 K x.1 x.2.1 w)) (law01_DigestKeys_s6_ok K) (subR_of h)
theorem law01_DigestKeys_facts : FunFacts prog 10 f10 (bodyOf f10) [(0, .agg)] [(0, 154)] := ⟨func10, by kernel_rfl, by kernel_rfl, by kernel_rfl, by kernel_rfl, by kernel_rfl⟩
theorem law01_DigestKeys_calls (K : Nat) (x : TT [(0, .agg)]) (w : World) (y : TR [.bool]) (w2 : World) (h : law01_DigestKeys K x.1 w = some (y, w2)) : Calls prog 10 (encA [(0, .agg)] x).toArray w (fun e w3 => e = .returned (resV (encR [.bool] y)) ∧ w3 = w2) :=
    mk_fun (O := tabL [([1, 1, 1, 1, 1, 0, 0], law01_DigestKeys_s0_se K), ([1, 1, 1, 1, 1, 1, 1, 1, 0, 0], law01_DigestKeys_s1_se K), ([1, 1, 1, 1, 1, 1, 1, 1, 1, 1, 0, 1], law01_DigestKeys_s2_se K), ([1, 1, 1, 1, 1, 1, 1, 1, 1, 1, 0, 1, 1, 1, 1], law01_DigestKeys_l3_se K), ([1, 1, 1, 1, 1, 1, 1, 1, 1, 1, 0, 1, 1, 1, 1, 0, 0, 0, 0], law01_DigestKeys_s4_se K), ([1, 1, 1, 1, 1, 1, 1, 1, 1, 1, 1, 1, 1, 0, 0], law01_DigestKeys_s5_se K), ([1, 1, 1, 1, 1, 1, 1, 1, 1, 1, 1, 1, 1, 1, 0, 0], law01_DigestKeys_s6_se K)]) (Lp := [(0, .agg)]) (Rt := [.bool]) (S := (fun x w => law01_DigestKeys K x.1 w)) (law01_DigestKeys_Eok K) (law01_DigestKeys_Rok K) rfl law01_DigestKeys_facts (Orc.cons (by kernel_rfl) (law01_DigestKeys_s0_se_ok K [(0, 154)] (by kernel_rfl)) (Orc.cons (by kernel_rfl) (law01_DigestKeys_s1_se_ok K [(0, 154)] (by kernel_rfl)) (Orc.cons (by kernel_rfl) (law01_DigestKeys_s2_se_ok K [(0, 154)] (by kernel_rfl)) (Orc.cons (by kernel_rfl) (law01_DigestKeys_l3_se_ok K [(0, 154)] (by kernel_rfl)) (Orc.cons (by kernel_rfl) (law01_DigestKeys_s4_se_ok K [(0, 154)] (by kernel_rfl)) (Orc.cons (by kernel_rfl) (law01_DigestKeys_s5_se_ok K [(0, 154)] (by kernel_rfl)) (Orc.cons (by kernel_rfl) (law01_DigestKeys_s6_se_ok K [(0, 154)] (by kernel_rfl)) (Orc.nil _ _ _)))))))) (fun _ _ => by kernel_rfl) x w y w2 h
noncomputable def law01_DigestKeys_ce (K : Nat) : CE := funE [(0, .agg)] [.bool] (fun x w => law01_DigestKeys K x.1 w)
theorem law01_DigestKeys_ok (K : Nat) : (law01_DigestKeys_ce K).Ok prog 10 := funE_ok (Rt := [.bool]) (S := (fun x w => law01_DigestKeys K x.1 w)) law01_DigestKeys_facts fun x w y w2 h => law01_DigestKeys_calls K x w y w2 h

noncomputable def digest_Stream_Copy_E : List (Nat × CE) := []
theorem digest_Stream_Copy_Eok : Env.Ok prog (tab (digest_Stream_Copy_E)) := (Env.nil _)
noncomputable def digest_Stream_Copy_R : List (Nat × RE) := []
theorem digest_Stream_Copy_Rok : REnv.Ok prog (tab (digest_Stream_Copy_R)) := (REnv.nil _)
/-- (*coffer/digest.Stream).Copy -/
noncomputable def digest_Stream_Copy (s0 : Option Addr) (w : World) : Option (((Option Addr) × Unit) × World) :=
  if s0.isNone = true then (some ((none, ()), w)) else ((s0).bind fun p_1 =>
  (ldA 142 p_1 w).bind fun v_2 =>
  bnd (newB z99 99 w) fun c_3 w_4 =>
  if (v_2).size = 142 then ((stA c_3 v_2 w_4).bind fun w_5 =>
  some (((some c_3), ()), w_5)) else none)
theorem digest_Stream_Copy_facts : FunFacts prog 51 f51 (bodyOf f51) [(0, .ptr)] [(0, 9)] := ⟨func51, by kernel_rfl, by kernel_rfl, by kernel_rfl, by kernel_rfl, by kernel_rfl⟩
theorem digest_Stream_Copy_calls (x : TT [(0, .ptr)]) (w : World) (y : TR [.ptr]) (w2 : World) (h : digest_Stream_Copy x.1 w = some (y, w2)) : Calls prog 51 (encA [(0, .ptr)] x).toArray w (fun e w3 => e = .returned (resV (encR [.ptr] y)) ∧ w3 = w2) :=
    mk_fun (O := tabL []) (Lp := [(0, .ptr)]) (Rt := [.ptr]) (S := (fun x w => digest_Stream_Copy x.1 w)) (digest_Stream_Copy_Eok) (digest_Stream_Copy_Rok) rfl digest_Stream_Copy_facts (Orc.nil _ _ _) (fun _ _ => by kernel_rfl) x w y w2 h
noncomputable def digest_Stream_Copy_ce : CE := funE [(0, .ptr)] [.ptr] (fun x w => digest_Stream_Copy x.1 w)
theorem digest_Stream_Copy_ok : (digest_Stream_Copy_ce).Ok prog 51 := funE_ok (Rt := [.ptr]) (S := (fun x w => digest_Stream_Copy x.1 w)) digest_Stream_Copy_facts fun x w y w2 h => digest_Stream_Copy_calls x w y w2 h

noncomputable def digest_Mac_Copy_E : List (Nat × CE) := []
theorem digest_Mac_Copy_Eok : Env.Ok prog (tab (digest_Mac_Copy_E)) := (Env.nil _)
noncomputable def digest_Mac_Copy_R : List (Nat × RE) := []
theorem digest_Mac_Copy_Rok : REnv.Ok prog (tab (digest_Mac_Copy_R)) := (REnv.nil _)
/-- (*coffer/digest.Mac).Copy -/
noncomputable def digest_Mac_Copy (m0 : Option Addr) (w : World) : Option (((Option Addr) × Unit) × World) :=
  if m0.isNone = true then (some ((none, ()), w)) else ((m0).bind fun p_1 =>
  (ldA 568 p_1 w).bind fun v_2 =>
  bnd (newB z101 101 w) fun c_3 w_4 =>
  if (v_2).size = 568 then ((stA c_3 v_2 w_4).bind fun w_5 =>
  some (((some c_3), ()), w_5)) else none)
theorem digest_Mac_Copy_facts : FunFacts prog 52 f52 (bodyOf f52) [(0, .ptr)] [(0, 9)] := ⟨func52, by kernel_rfl, by kernel_rfl, by kernel_rfl, by kernel_rfl, by kernel_rfl⟩
theorem digest_Mac_Copy_calls (x : TT [(0, .ptr)]) (w : World) (y : TR [.ptr]) (w2 : World) (h : digest_Mac_Copy x.1 w = some (y, w2)) : Calls prog 52 (encA [(0, .ptr)] x).toArray w (fun e w3 => e = .returned (resV (encR [.ptr] y)) ∧ w3 = w2) :=
    mk_fun (O := tabL []) (Lp := [(0, .ptr)]) (Rt := [.ptr]) (S := (fun x w => digest_Mac_Copy x.1 w)) (digest_Mac_Copy_Eok) (digest_Mac_Copy_Rok) rfl digest_Mac_Copy_facts (Orc.nil _ _ _) (fun _ _ => by kernel_rfl) x w y w2 h
noncomputable def digest_Mac_Copy_ce : CE := funE [(0, .ptr)] [.ptr] (fun x w => digest_Mac_Copy x.1 w)
theorem digest_Mac_Copy_ok : (digest_Mac_Copy_ce).Ok prog 52 := funE_ok (Rt := [.ptr]) (S := (fun x w => digest_Mac_Copy x.1 w)) digest_Mac_Copy_facts fun x w y w2 h => digest_Mac_Copy_calls x w y w2 h

noncomputable def law01_DigestCuts_E (K : Nat) : List (Nat × CE) := [(24, digest_Sum_ce K), (31, digest_Code_ce K), (40, digest_New_ce K), (41, digest_NewMac_ce K), (30, book_Bytes_ce K), (42, digest_Stream_Write_ce K), (43, digest_Mac_Write_ce K), (29, book_SpoilBytes_ce K), (44, digest_Stream_Sum_ce K), (27, book_SameBytes_ce K), (51, digest_Stream_Copy_ce), (52, digest_Mac_Copy_ce), (45, digest_Mac_Sum_ce K)]
theorem law01_DigestCuts_Eok (K : Nat) : Env.Ok prog (tab (law01_DigestCuts_E K)) := (Env.cons (digest_Sum_ok K) (Env.cons (digest_Code_ok K) (Env.cons (digest_New_ok K) (Env.cons (digest_NewMac_ok K) (Env.cons (book_Bytes_ok K) (Env.cons (digest_Stream_Write_ok K) (Env.cons (digest_Mac_Write_ok K) (Env.cons (book_SpoilBytes_ok K) (Env.cons (digest_Stream_Sum_ok K) (Env.cons (book_SameBytes_ok K) (Env.cons (digest_Stream_Copy_ok) (Env.cons (digest_Mac_Copy_ok) (Env.cons (digest_Mac_Sum_ok K) (Env.nil _))))))))))))))
noncomputable def law01_DigestCuts_R (K : Nat) : List (Nat × RE) := [(49, law01_known_re), (26, law01_num_re), (46, digest_Stream_Count_re)]
theorem law01_DigestCuts_Rok (K : Nat) : REnv.Ok prog (tab (law01_DigestCuts_R K)) := (REnv.cons (law01_known_ok) (REnv.cons (law01_num_ok) (REnv.cons (digest_Stream_Count_ok) (REnv.nil _))))
noncomputable def law01_DigestCuts_s0 (K : Nat) (hash3 : Int) (key4 : Sl) (b5 : Sl) (w : World) : Option ((Bool × Unit) × World) :=
  (law01_known hash3).bind fun r_7 =>
  if (!r_7.1) = true then (some ((true, ()), w)) else (if (decide (((b5.len : Nat) : Int) > 65536)) = true then (some ((true, ()), w)) else (some (((decide (((key4.len : Nat) : Int) > 65536)), ()), w)))
noncomputable def law01_DigestCuts_s1 (K : Nat) (hash3 : Int) (want7 : Sl) (e8 : Int) (code9 : Sl) (f10 : Int) (s11 : Option Addr) (g12 : Int) (m13 : Option Addr) (h14 : Int) (w : World) : Option ((Bool × Unit) × World) :=
  (law01_num e8).bind fun r_22 =>
  if (r_22.1 != 0) = true then (some ((true, ()), w)) else ((law01_num f10).bind fun r_23 =>
  if (r_23.1 != 0) = true then (some ((true, ()), w)) else ((law01_num g12).bind fun r_24 =>
  if (r_24.1 != 0) = true then (some ((true, ()), w)) else ((law01_num h14).bind fun r_25 =>
  if (r_25.1 != 0) = true then (some ((true, ()), w)) else (if s11.isNone = true then (some ((true, ()), w)) else (if m13.isNone = true then (some ((true, ()), w)) else (if (((want7.len : Nat) : Int) != (IntKind.i64.wrap (Int.tdiv hash3 8))) = true then (some ((true, ()), w)) else (some (((((code9.len : Nat) : Int) != (IntKind.i64.wrap (Int.tdiv hash3 8))), ()), w))))))))
noncomputable def law01_DigestCuts_s3 (K : Nat) (cuts6 : Sl) (i16 : Int) (w : World) : Option ((Bool × Unit) × World) :=
  if (decide (i16 < ((cuts6.len : Nat) : Int))) = true then (some (((decide (i16 < 60)), ()), w)) else (some ((false, ()), w))
noncomputable def law01_DigestCuts_s4 (K : Nat) (b5 : Sl) (at15 : Int) (n17 : Int) (w : World) : Option ((Bool × Unit) × World) :=
  if (decide (n17 < 0)) = true then (some ((true, ()), w)) else (some (((decide (n17 > (IntKind.i64.wrap (((b5.len : Nat) : Int) - at15)))), ()), w))
noncomputable def law01_DigestCuts_s5 (K : Nat) (b5 : Sl) (at15 : Int) (n17 : Int) (a131 : Bool) (w : World) : Option ((Int × Unit) × World) :=
  if a131 = true then (some (((IntKind.i64.wrap (Int.tdiv (IntKind.i64.wrap (((b5.len : Nat) : Int) - at15)) 2)), ()), w)) else (some ((n17, ()), w))
noncomputable def law01_DigestCuts_s6 (K : Nat) (s11 : Option Addr) (m13 : Option Addr) (x18 : Sl) (w : World) : Option ((Bool × Unit) × World) :=
  bnd (bldS prog 24 2 #[(0, (.slice x18.a x18.len x18.cap)), (1, (.slice none 0 0))] w) fun s_38 w_39 =>
  bnd (digest_Stream_Write K s11 s_38 w_39) fun r_40 w_41 =>
  (law01_num r_40.1).bind fun r_42 =>
  if (r_42.1 != 0) = true then (some ((true, ()), w_41)) else (bnd (bldS prog 24 2 #[(0, (.slice none 0 0)), (1, (.slice x18.a x18.len x18.cap))] w_41) fun s_43 w_44 =>
  bnd (digest_Mac_Write K m13 s_43 w_44) fun r_45 w_46 =>
  (law01_num r_45.1).bind fun r_47 =>
  some (((r_47.1 != 0), ()), w_46))
noncomputable def law01_DigestCuts_s7 (K : Nat) (s11 : Option Addr) (at15 : Int) (p19 : Sl) (w : World) : Option ((Bool × Unit) × World) :=
  bnd (digest_Stream_Sum K s11 w) fun r_56 w_57 =>
  bnd (book_SameBytes K r_56.1 p19 w_57) fun r_58 w_59 =>
  if (!r_58.1) = true then (some ((true, ()), w_59)) else ((digest_Stream_Count s11 w_59).bind fun r_60 =>
  some (((r_60.1 != (IntKind.u64.wrap at15)), ()), w_59))
noncomputable def law01_DigestCuts_l2_b (K : Nat) (rec : Int → Sl → Sl → Sl → Sl → Option Addr → Option Addr → Int → Int → World → Option ((Out ((Option Addr) × (Option Addr) × Int × Unit) (Bool × Unit)) × World)) (hash3 : Int) (b5 : Sl) (cuts6 : Sl) (want7 : Sl) (code9 : Sl) (s11 : Option Addr) (m13 : Option Addr) (at15 : Int) (i16 : Int) (w : World) : Option ((Out ((Option Addr) × (Option Addr) × Int × Unit) (Bool × Unit)) × World) :=
  bnd (law01_DigestCuts_s3 K cuts6 i16 w) fun y_28 w_29 =>
  if y_28.1 = true then ((cuts6.a).bind fun p_30 =>
  if (0 : Int) ≤ i16 ∧ i16 < ((cuts6.len : Nat) : Int) then ((ldI .i64 (p_30.add ((Int.toNat i16) * 1)) w_29).bind fun v_31 =>
  bnd (law01_DigestCuts_s4 K b5 at15 v_31 w_29) fun y_32 w_33 =>
  bnd (law01_DigestCuts_s5 K b5 at15 v_31 y_32.1 w_33) fun y_34 w_35 =>
  if (0 : Int) ≤ (IntKind.i64.wrap (at15 + y_34.1)) ∧ (IntKind.i64.wrap (at15 + y_34.1)) ≤ ((b5.cap : Nat) : Int) then (if (0 : Int) ≤ at15 ∧ at15 ≤ (((Int.toNat ((IntKind.i64.wrap (at15 + y_34.1)))) : Nat) : Int) then (bnd (book_Bytes K ⟨(sla b5.a (Int.toNat (at15)) b5.cap 1), ((Int.toNat ((IntKind.i64.wrap (at15 + y_34.1)))) - (Int.toNat (at15))), (b5.cap - (Int.toNat (at15)))⟩ w_35) fun r_36 w_37 =>
  bnd (law01_DigestCuts_s6 K s11 m13 r_36.1 w_37) fun y_48 w_49 =>
  if y_48.1 = true then (some (.ret (false, ()), w_49)) else (bnd (book_SpoilBytes K r_36.1 w_49) fun r_50 w_51 =>
  if (0 : Int) ≤ (IntKind.i64.wrap (at15 + y_34.1)) ∧ (IntKind.i64.wrap (at15 + y_34.1)) ≤ ((b5.cap : Nat) : Int) then (bnd (bldS prog 24 1 #[(0, (.slice (sla b5.a 0 b5.cap 1) ((Int.toNat ((IntKind.i64.wrap (at15 + y_34.1)))) - 0) (b5.cap - 0)))] w_51) fun s_52 w_53 =>
  bnd (digest_Sum K hash3 s_52 w_53) fun r_54 w_55 =>
  bnd (law01_DigestCuts_s7 K s11 (IntKind.i64.wrap (at15 + y_34.1)) r_54.1 w_55) fun y_61 w_62 =>
  if y_61.1 = true then (some (.ret (false, ()), w_62)) else (if ((Int.tmod i16 3) == 1) = true then (bnd (digest_Stream_Copy s11 w_62) fun r_63 w_64 =>
  bnd (digest_Mac_Copy m13 w_64) fun r_65 w_66 =>
  if r_63.1.isNone = true then (some (.ret (false, ()), w_66)) else (if r_65.1.isNone = true then (some (.ret (false, ()), w_66)) else (rec hash3 b5 cuts6 want7 code9 r_63.1 r_65.1 (IntKind.i64.wrap (at15 + y_34.1)) (IntKind.i64.wrap (i16 + 1)) w_66))) else (rec hash3 b5 cuts6 want7 code9 s11 m13 (IntKind.i64.wrap (at15 + y_34.1)) (IntKind.i64.wrap (i16 + 1)) w_62))) else none)) else none) else none) else none) else (some (.norm (s11, m13, at15, ()), w_29))
noncomputable def law01_DigestCuts_l2 (K : Nat) (n : Nat) : Int → Sl → Sl → Sl → Sl → Option Addr → Option Addr → Int → Int → World → Option ((Out ((Option Addr) × (Option Addr) × Int × Unit) (Bool × Unit)) × World) := iter (fun _ _ _ _ _ _ _ _ _ _ => none) (law01_DigestCuts_l2_b K) n
/-- coffer/cofferlaw01.DigestCuts -/
noncomputable def law01_DigestCuts (K : Nat) (c0 : Array Value) (w : World) : Option ((Bool × Unit) × World) :=
  bnd (newB c0 64 w) fun p_1 w_2 =>
  (ldI .i64 (p_1.add 0) w_2).bind fun v_3 =>
  (ldS (p_1.add 1) w_2).bind fun v_4 =>
  (ldS (p_1.add 2) w_2).bind fun v_5 =>
  (ldS (p_1.add 3) w_2).bind fun v_6 =>
  bnd (law01_DigestCuts_s0 K v_3 v_4 v_5 w_2) fun y_8 w_9 =>
  if y_8.1 = true then (some ((true, ()), w_9)) else (bnd (bldS prog 24 1 #[(0, (.slice v_5.a v_5.len v_5.cap))] w_9) fun s_10 w_11 =>
  bnd (digest_Sum K v_3 s_10 w_11) fun r_12 w_13 =>
  bnd (bldS prog 24 1 #[(0, (.slice v_5.a v_5.len v_5.cap))] w_13) fun s_14 w_15 =>
  bnd (digest_Code K v_3 v_4 s_14 w_15) fun r_16 w_17 =>
  bnd (digest_New K v_3 w_17) fun r_18 w_19 =>
  bnd (digest_NewMac K v_3 v_4 w_19) fun r_20 w_21 =>
  bnd (law01_DigestCuts_s1 K v_3 r_12.1 r_12.2.1 r_16.1 r_16.2.1 r_18.1 r_18.2.1 r_20.1 r_20.2.1 w_21) fun y_26 w_27 =>
  if y_26.1 = true then (some ((false, ()), w_27)) else (bnd (law01_DigestCuts_l2 K K v_3 v_5 v_6 r_12.1 r_16.1 r_18.1 r_20.1 0 0 w_27) fun y_67 w_68 =>
  (match y_67 with
  | .norm z_69n => (if (0 : Int) ≤ z_69n.2.2.1 ∧ z_69n.2.2.1 ≤ ((v_5.len : Nat) : Int) then (bnd (bldS prog 24 1 #[(0, (.slice (sla v_5.a (Int.toNat (z_69n.2.2.1)) v_5.cap 1) (v_5.len - (Int.toNat (z_69n.2.2.1))) (v_5.cap - (Int.toNat (z_69n.2.2.1)))))] w_68) fun s_70 w_71 =>
  bnd (digest_Stream_Write K z_69n.1 s_70 w_71) fun r_72 w_73 =>
  (law01_num r_72.1).bind fun r_74 =>
  if (r_74.1 == 0) = true then (if (0 : Int) ≤ z_69n.2.2.1 ∧ z_69n.2.2.1 ≤ ((v_5.len : Nat) : Int) then (bnd (bldS prog 24 1 #[(0, (.slice (sla v_5.a (Int.toNat (z_69n.2.2.1)) v_5.cap 1) (v_5.len - (Int.toNat (z_69n.2.2.1))) (v_5.cap - (Int.toNat (z_69n.2.2.1)))))] w_73) fun s_75 w_76 =>
  bnd (digest_Mac_Write K z_69n.2.1 s_75 w_76) fun r_77 w_78 =>
  (law01_num r_77.1).bind fun r_79 =>
  if (r_79.1 == 0) = true then (bnd (digest_Stream_Sum K z_69n.1 w_78) fun r_80 w_81 =>
  bnd (book_SameBytes K r_80.1 r_12.1 w_81) fun r_82 w_83 =>
  if r_82.1 = true then (bnd (digest_Mac_Sum K z_69n.2.1 w_83) fun r_84 w_85 =>
  bnd (book_SameBytes K r_84.1 r_16.1 w_85) fun r_86 w_87 =>
  some ((r_86.1, ()), w_87)) else (some ((false, ()), w_83))) else (some ((false, ()), w_78))) else none) else (some ((false, ()), w_73))) else none)
  | .ret z_69r => (some ((z_69r.1, ()), w_68)))))
theorem law01_DigestCuts_s0_ok (K : Nat) : StmtNOk prog [(3, .int .i64), (4, .sl), (5, .sl)] [(41, .bool)] [(29, 42)] (fun x w => law01_DigestCuts_s0 K x.1 x.2.1 x.2.2.1 w) (cd (bodyOf f11) [1, 1, 1, 1, 1, 0, 0]) :=
    mk_stmtN (O := tabL []) (root := (bodyOf f11)) (π := [1, 1, 1, 1, 1, 0, 0]) (Li := [(3, .int .i64), (4, .sl), (5, .sl)]) (Lo := [(41, .bool)]) (S := (fun x w => law01_DigestCuts_s0 K x.1 x.2.1 x.2.2.1 w)) (law01_DigestCuts_Eok K) (law01_DigestCuts_Rok K) rfl (Orc.nil _ _ _) (by kernel_rfl) (fun _ _ => by kernel_rfl)
noncomputable def law01_DigestCuts_s0_se (K : Nat) : SE := stmtN [(3, .int .i64), (4, .sl), (5, .sl)] [(41, .bool)] [(29, 42)] (fun x w => law01_DigestCuts_s0 K x.1 x.2.1 x.2.2.1 w)
theorem law01_DigestCuts_s0_se_ok (K : Nat) (R : Rg) (h : subRB [(29, 42)] R = true) : (law01_DigestCuts_s0_se K).Ok prog R (cd (bodyOf f11) [1, 1, 1, 1, 1, 0, 0]) := stmtN_ok (Li := [(3, .int .i64), (4, .sl), (5, .sl)]) (Lo := [(41, .bool)]) (S := (fun x w => law01_DigestCuts_s0 K x.1 x.2.1 x.2.2.1 w)) (law01_DigestCuts_s0_ok K) (subR_of h)
theorem law01_DigestCuts_s1_ok (K : Nat) : StmtNOk prog [(3, .int .i64), (7, .sl), (8, .int .i64), (9, .sl), (10, .int .i64), (11, .ptr), (12, .int .i64), (13, .ptr), (14, .int .i64)] [(107, .bool)] [(68, 108)] (fun x w => law01_DigestCuts_s1 K x.1 x.2.1 x.2.2.1 x.2.2.2.1 x.2.2.2.2.1 x.2.2.2.2.2.1 x.2.2.2.2.2.2.1 x.2.2.2.2.2.2.2.1 x.2.2.2.2.2.2.2.2.1 w) (cd (bodyOf f11) [1, 1, 1, 1, 1, 1, 1, 1, 1, 1, 0, 0]) :=
    mk_stmtN (O := tabL []) (root := (bodyOf f11)) (π := [1, 1, 1, 1, 1, 1, 1, 1, 1, 1, 0, 0]) (Li := [(3, .int .i64), (7, .sl), (8, .int .i64), (9, .sl), (10, .int .i64), (11, .ptr), (12, .int .i64), (13, .ptr), (14, .int .i64)]) (Lo := [(107, .bool)]) (S := (fun x w => law01_DigestCuts_s1 K x.1 x.2.1 x.2.2.1 x.2.2.2.1 x.2.2.2.2.1 x.2.2.2.2.2.1 x.2.2.2.2.2.2.1 x.2.2.2.2.2.2.2.1 x.2.2.2.2.2.2.2.2.1 w)) (law01_DigestCuts_Eok K) (law01_DigestCuts_Rok K) rfl (Orc.nil _ _ _) (by kernel_rfl) (fun _ _ => by kernel_rfl)
noncomputable def law01_DigestCuts_s1_se (K : Nat) : SE := stmtN [(3, .int .i64), (7, .sl), (8, .int .i64), (9, .sl), (10, .int .i64), (11, .ptr), (12, .int .i64), (13, .ptr), (14, .int .i64)] [(107, .bool)] [(68, 108)] (fun x w => law01_DigestCuts_s1 K x.1 x.2.1 x.2.2.1 x.2.2.2.1 x.2.2.2.2.1 x.2.2.2.2.2.1 x.2.2.2.2.2.2.1 x.2.2.2.2.2.2.2.1 x.2.2.2.2.2.2.2.2.1 w)
theorem law01_DigestCuts_s1_se_ok (K : Nat) (R : Rg) (h : subRB [(68, 108)] R = true) : (law01_DigestCuts_s1_se K).Ok prog R (cd (bodyOf f11) [1, 1, 1, 1, 1, 1, 1, 1, 1, 1, 0, 0]) := stmtN_ok (Li := [(3, .int .i64), (7, .sl), (8, .int .i64), (9, .sl), (10, .int .i64), (11, .ptr), (12, .int .i64), (13, .ptr), (14, .int .i64)]) (Lo := [(107, .bool)]) (S := (fun x w => law01_DigestCuts_s1 K x.1 x.2.1 x.2.2.1 x.2.2.2.1 x.2.2.2.2.1 x.2.2.2.2.2.1 x.2.2.2.2.2.2.1 x.2.2.2.2.2.2.2.1 x.2.2.2.2.2.2.2.2.1 w)) (law01_DigestCuts_s1_ok K) (subR_of h)
theorem law01_DigestCuts_s3_ok (K : Nat) : StmtNOk prog [(6, .sl), (16, .int .i64)] [(115, .bool)] [(108, 116)] (fun x w => law01_DigestCuts_s3 K x.1 x.2.1 w) (cd (bodyOf f11) [1, 1, 1, 1, 1, 1, 1, 1, 1, 1, 1, 1, 0, 1, 0, 0, 0, 0]) :=
    mk_stmtN (O := tabL []) (root := (bodyOf f11)) (π := [1, 1, 1, 1, 1, 1, 1, 1, 1, 1, 1, 1, 0, 1, 0, 0, 0, 0]) (Li := [(6, .sl), (16, .int .i64)]) (Lo := [(115, .bool)]) (S := (fun x w => law01_DigestCuts_s3 K x.1 x.2.1 w)) (law01_DigestCuts_Eok K) (law01_DigestCuts_Rok K) rfl (Orc.nil _ _ _) (by kernel_rfl) (fun _ _ => by kernel_rfl)
noncomputable def law01_DigestCuts_s3_se (K : Nat) : SE := stmtN [(6, .sl), (16, .int .i64)] [(115, .bool)] [(108, 116)] (fun x w => law01_DigestCuts_s3 K x.1 x.2.1 w)
theorem law01_DigestCuts_s3_se_ok (K : Nat) (R : Rg) (h : subRB [(108, 116)] R = true) : (law01_DigestCuts_s3_se K).Ok prog R (cd (bodyOf f11) [1, 1, 1, 1, 1, 1, 1, 1, 1, 1, 1, 1, 0, 1, 0, 0, 0, 0]) := stmtN_ok (Li := [(6, .sl), (16, .int .i64)]) (Lo := [(115, .bool)]) (S := (fun x w => law01_DigestCuts_s3 K x.1 x.2.1 w)) (law01_DigestCuts_s3_ok K) (subR_of h)
theorem law01_DigestCuts_s4_ok (K : Nat) : StmtNOk prog [(5, .sl), (15, .int .i64), (17, .int .i64)] [(131, .bool)] [(122, 132)] (fun x w => law01_DigestCuts_s4 K x.1 x.2.1 x.2.2.1 w) (cd (bodyOf f11) [1, 1, 1, 1, 1, 1, 1, 1, 1, 1, 1, 1, 0, 1, 0, 0, 1, 0, 0, 1, 0, 0]) :=
    mk_stmtN (O := tabL []) (root := (bodyOf f11)) (π := [1, 1, 1, 1, 1, 1, 1, 1, 1, 1, 1, 1, 0, 1, 0, 0, 1, 0, 0, 1, 0, 0]) (Li := [(5, .sl), (15, .int .i64), (17, .int .i64)]) (Lo := [(131, .bool)]) (S := (fun x w => law01_DigestCuts_s4 K x.1 x.2.1 x.2.2.1 w)) (law01_DigestCuts_Eok K) (law01_DigestCuts_Rok K) rfl (Orc.nil _ _ _) (by kernel_rfl) (fun _ _ => by kernel_rfl)
noncomputable def law01_DigestCuts_s4_se (K : Nat) : SE := stmtN [(5, .sl), (15, .int .i64), (17, .int .i64)] [(131, .bool)] [(122, 132)] (fun x w => law01_DigestCuts_s4 K x.1 x.2.1 x.2.2.1 w)
theorem law01_DigestCuts_s4_se_ok (K : Nat) (R : Rg) (h : subRB [(122, 132)] R = true) : (law01_DigestCuts_s4_se K).Ok prog R (cd (bodyOf f11) [1, 1, 1, 1, 1, 1, 1, 1, 1, 1, 1, 1, 0, 1, 0, 0, 1, 0, 0, 1, 0, 0]) := stmtN_ok (Li := [(5, .sl), (15, .int .i64), (17, .int .i64)]) (Lo := [(131, .bool)]) (S := (fun x w => law01_DigestCuts_s4 K x.1 x.2.1 x.2.2.1 w)) (law01_DigestCuts_s4_ok K) (subR_of h)
theorem law01_DigestCuts_s5_ok (K : Nat) : StmtNOk prog [(5, .sl), (15, .int .i64), (17, .int .i64), (131, .bool)] [(17, .int .i64)] [(17, 18), (132, 137)] (fun x w => law01_DigestCuts_s5 K x.1 x.2.1 x.2.2.1 x.2.2.2.1 w) (cd (bodyOf f11) [1, 1, 1, 1, 1, 1, 1, 1, 1, 1, 1, 1, 0, 1, 0, 0, 1, 0, 0, 1, 0, 1]) :=
    mk_stmtN (O := tabL []) (root := (bodyOf f11)) (π := [1, 1, 1, 1, 1, 1, 1, 1, 1, 1, 1, 1, 0, 1, 0, 0, 1, 0, 0, 1, 0, 1]) (Li := [(5, .sl), (15, .int .i64), (17, .int .i64), (131, .bool)]) (Lo := [(17, .int .i64)]) (S := (fun x w => law01_DigestCuts_s5 K x.1 x.2.1 x.2.2.1 x.2.2.2.1 w)) (law01_DigestCuts_Eok K) (law01_DigestCuts_Rok K) rfl (Orc.nil _ _ _) (by kernel_rfl) (fun _ _ => by kernel_rfl)
noncomputable def law01_DigestCuts_s5_se (K : Nat) : SE := stmtN [(5, .sl), (15, .int .i64), (17, .int .i64), (131, .bool)] [(17, .int .i64)] [(17, 18), (132, 137)] (fun x w => law01_DigestCuts_s5 K x.1 x.2.1 x.2.2.1 x.2.2.2.1 w)
theorem law01_DigestCuts_s5_se_ok (K : Nat) (R : Rg) (h : subRB [(17, 18), (132, 137)] R = true) : (law01_DigestCuts_s5_se K).Ok prog R (cd (bodyOf f11) [1, 1, 1, 1, 1, 1, 1, 1, 1, 1, 1, 1, 0, 1, 0, 0, 1, 0, 0, 1, 0, 1]) := stmtN_ok (Li := [(5, .sl), (15, .int .i64), (17, .int .i64), (131, .bool)]) (Lo := [(17, .int .i64)]) (S := (fun x w => law01_DigestCuts_s5 K x.1 x.2.1 x.2.2.1 x.2.2.2.1 w)) (law01_DigestCuts_s5_ok K) (subR_of h)
theorem law01_DigestCuts_s6_ok (K : Nat) : StmtNOk prog [(11, .ptr), (13, .ptr), (18, .sl)] [(157, .bool)] [(144, 158)] (fun x w => law01_DigestCuts_s6 K x.1 x.2.1 x.2.2.1 w) (cd (bodyOf f11) [1, 1, 1, 1, 1, 1, 1, 1, 1, 1, 1, 1, 0, 1, 0, 0, 1, 0, 0, 1, 1, 1, 0, 0]) :=
    mk_stmtN (O := tabL []) (root := (bodyOf f11)) (π := [1, 1, 1, 1, 1, 1, 1, 1, 1, 1, 1, 1, 0, 1, 0, 0, 1, 0, 0, 1, 1, 1, 0, 0]) (Li := [(11, .ptr), (13, .ptr), (18, .sl)]) (Lo := [(157, .bool)]) (S := (fun x w => law01_DigestCuts_s6 K x.1 x.2.1 x.2.2.1 w)) (law01_DigestCuts_Eok K) (law01_DigestCuts_Rok K) rfl (Orc.nil _ _ _) (by kernel_rfl) (fun _ _ => by kernel_rfl)
noncomputable def law01_DigestCuts_s6_se (K : Nat) : SE := stmtN [(11, .ptr), (13, .ptr), (18, .sl)] [(157, .bool)] [(144, 158)] (fun x w => law01_DigestCuts_s6 K x.1 x.2.1 x.2.2.1 w)
theorem law01_DigestCuts_s6_se_ok (K : Nat) (R : Rg) (h : subRB [(144, 158)] R = true) : (law01_DigestCuts_s6_se K).Ok prog R (cd (bodyOf f11) [1, 1, 1, 1, 1, 1, 1, 1, 1, 1, 1, 1, 0, 1, 0, 0, 1, 0, 0, 1, 1, 1, 0, 0]) := stmtN_ok (Li := [(11, .ptr), (13, .ptr), (18, .sl)]) (Lo := [(157, .bool)]) (S := (fun x w => law01_DigestCuts_s6 K x.1 x.2.1 x.2.2.1 w)) (law01_DigestCuts_s6_ok K) (subR_of h)
theorem law01_DigestCuts_s7_ok (K : Nat) : StmtNOk prog [(11, .ptr), (15, .int .i64), (19, .sl)] [(183, .bool)] [(172, 184)] (fun x w => law01_DigestCuts_s7 K x.1 x.2.1 x.2.2.1 w) (cd (bodyOf f11) [1, 1, 1, 1, 1, 1, 1, 1, 1, 1, 1, 1, 0, 1, 0, 0, 1, 0, 0, 1, 1, 1, 1, 1, 1, 1, 0, 0]) :=
    mk_stmtN (O := tabL []) (root := (bodyOf f11)) (π := [1, 1, 1, 1, 1, 1, 1, 1, 1, 1, 1, 1, 0, 1, 0, 0, 1, 0, 0, 1, 1, 1, 1, 1, 1, 1, 0, 0]) (Li := [(11, .ptr), (15, .int .i64), (19, .sl)]) (Lo := [(183, .bool)]) (S := (fun x w => law01_DigestCuts_s7 K x.1 x.2.1 x.2.2.1 w)) (law01_DigestCuts_Eok K) (law01_DigestCuts_Rok K) rfl (Orc.nil _ _ _) (by kernel_rfl) (fun _ _ => by kernel_rfl)
noncomputable def law01_DigestCuts_s7_se (K : Nat) : SE := stmtN [(11, .ptr), (15, .int .i64), (19, .sl)] [(183, .bool)] [(172, 184)] (fun x w => law01_DigestCuts_s7 K x.1 x.2.1 x.2.2.1 w)
theorem law01_DigestCuts_s7_se_ok (K : Nat) (R : Rg) (h : subRB [(172, 184)] R = true) : (law01_DigestCuts_s7_se K).Ok prog R (cd (bodyOf f11) [1, 1, 1, 1, 1, 1, 1, 1, 1, 1, 1, 1, 0, 1, 0, 0, 1, 0, 0, 1, 1, 1, 1, 1, 1, 1, 0, 0]) := stmtN_ok (Li := [(11, .ptr), (15, .int .i64), (19, .sl)]) (Lo := [(183, .bool)]) (S := (fun x w => law01_DigestCuts_s7 K x.1 x.2.1 x.2.2.1 w)) (law01_DigestCuts_s7_ok K) (subR_of h)
theorem law01_DigestCuts_l2_ok (K : Nat) (n : Nat) : StmtOk prog [(3, .int .i64), (5, .sl), (6, .sl), (7, .sl), (9, .sl), (11, .ptr), (13, .ptr), (15, .int .i64), (16, .int .i64)] [(11, .ptr), (13, .ptr), (15, .int .i64)] [(2, .bool)] [(2, 3), (11, 12), (13, 14), (15, 21), (108, 197)] ((fun n x w => law01_DigestCuts_l2 K n x.1 x.2.1 x.2.2.1 x.2.2.2.1 x.2.2.2.2.1 x.2.2.2.2.2.1 x.2.2.2.2.2.2.1 x.2.2.2.2.2.2.2.1 x.2.2.2.2.2.2.2.2.1 w) n) (.block 0 (.loop (cd (bodyOf f11) [1, 1, 1, 1, 1, 1, 1, 1, 1, 1, 1, 1, 0, 1, 0, 0]))) :=
    mk_loop (O := tabL [([1, 1, 1, 1, 1, 1, 1, 1, 1, 1, 1, 1, 0, 1, 0, 0, 0, 0], law01_DigestCuts_s3_se K), ([1, 1, 1, 1, 1, 1, 1, 1, 1, 1, 1, 1, 0, 1, 0, 0, 1, 0, 0, 1, 0, 0], law01_DigestCuts_s4_se K), ([1, 1, 1, 1, 1, 1, 1, 1, 1, 1, 1, 1, 0, 1, 0, 0, 1, 0, 0, 1, 0, 1], law01_DigestCuts_s5_se K), ([1, 1, 1, 1, 1, 1, 1, 1, 1, 1, 1, 1, 0, 1, 0, 0, 1, 0, 0, 1, 1, 1, 0, 0], law01_DigestCuts_s6_se K), ([1, 1, 1, 1, 1, 1, 1, 1, 1, 1, 1, 1, 0, 1, 0, 0, 1, 0, 0, 1, 1, 1, 1, 1, 1, 1, 0, 0], law01_DigestCuts_s7_se K)]) (root := (bodyOf f11)) (π := [1, 1, 1, 1, 1, 1, 1, 1, 1, 1, 1, 1, 0, 1, 0, 0]) (id := 0) (Li := [(3, .int .i64), (5, .sl), (6, .sl), (7, .sl), (9, .sl), (11, .ptr), (13, .ptr), (15, .int .i64), (16, .int .i64)]) (Lo := [(11, .ptr), (13, .ptr), (15, .int .i64)]) (Lr := [(2, .bool)]) (S := (fun n x w => law01_DigestCuts_l2 K n x.1 x.2.1 x.2.2.1 x.2.2.2.1 x.2.2.2.2.1 x.2.2.2.2.2.1 x.2.2.2.2.2.2.1 x.2.2.2.2.2.2.2.1 x.2.2.2.2.2.2.2.2.1 w)) (body := cd (bodyOf f11) [1, 1, 1, 1, 1, 1, 1, 1, 1, 1, 1, 1, 0, 1, 0, 0]) (law01_DigestCuts_Eok K) (law01_DigestCuts_Rok K) rfl (Orc.cons (by kernel_rfl) (law01_DigestCuts_s3_se_ok K [(2, 3), (11, 12), (13, 14), (15, 21), (108, 197)] (by kernel_rfl)) (Orc.cons (by kernel_rfl) (law01_DigestCuts_s4_se_ok K [(2, 3), (11, 12), (13, 14), (15, 21), (108, 197)] (by kernel_rfl)) (Orc.cons (by kernel_rfl) (law01_DigestCuts_s5_se_ok K [(2, 3), (11, 12), (13, 14), (15, 21), (108, 197)] (by kernel_rfl)) (Orc.cons (by kernel_rfl) (law01_DigestCuts_s6_se_ok K [(2, 3), (11, 12), (13, 14), (15, 21), (108, 197)] (by kernel_rfl)) (Orc.cons (by kernel_rfl) (law01_DigestCuts_s7_se_ok K [(2, 3), (11, 12), (13, 14), (15, 21), (108, 197)] (by kernel_rfl)) (Orc.nil _ _ _)))))) (by kernel_rfl) (fun _ _ => by kernel_rfl) (fun _ _ _ => by kernel_rfl) n
noncomputable def law01_DigestCuts_l2_se (K : Nat) : SE := stmt [(3, .int .i64), (5, .sl), (6, .sl), (7, .sl), (9, .sl), (11, .ptr), (13, .ptr), (15, .int .i64), (16, .int .i64)] [(11, .ptr), (13, .ptr), (15, .int .i64)] [(2, .bool)] [(2, 3), (11, 12), (13, 14), (15, 21), (108, 197)] (fun x w => law01_DigestCuts_l2 K K x.1 x.2.1 x.2.2.1 x.2.2.2.1 x.2.2.2.2.1 x.2.2.2.2.2.1 x.2.2.2.2.2.2.1 x.2.2.2.2.2.2.2.1 x.2.2.2.2.2.2.2.2.1 w)
theorem law01_DigestCuts_l2_se_ok (K : Nat) (R : Rg) (h : subRB [(2, 3), (11, 12), (13, 14), (15, 21), (108, 197)] R = true) : (law01_DigestCuts_l2_se K).Ok prog R (.block 0 (.loop (cd (bodyOf f11) [1, 1, 1, 1, 1, 1, 1, 1, 1, 1, 1, 1, 0, 1, 0, 0]))) := stmt_ok (Li := [(3, .int .i64), (5, .sl), (6, .sl), (7, .sl), (9, .sl), (11, .ptr), (13, .ptr), (15, .int .i64), (16, .int .i64)]) (Lo := [(11, .ptr), (13, .ptr), (15, .int .i64)]) (Lr := [(2, .bool)]) (S := (fun x w => law01_DigestCuts_l2 K K x.1 x.2.1 x.2.2.1 x.2.2.2.1 x.2.2.2.2.1 x.2.2.2.2.2.1 x.2.2.2.2.2.2.1 x.2.2.2.2.2.2.2.1 x.2.2.2.2.2.2.2.2.1 w)) (law01_DigestCuts_l2_ok K K) (subR_of h)
theorem law01_DigestCuts_facts : FunFacts prog 11 f11 (bodyOf f11) [(0, .agg)] [(0, 227)] := ⟨func11, by kernel_rfl, by kernel_rfl, by kernel_rfl, by kernel_rfl, by kernel_rfl⟩
theorem law01_DigestCuts_calls (K : Nat) (x : TT [(0, .agg)]) (w : World) (y : TR [.bool]) (w2 : World) (h : law01_DigestCuts K x.1 w = some (y, w2)) : Calls prog 11 (encA [(0, .agg)] x).toArray w (fun e w3 => e = .returned (resV (encR [.bool] y)) ∧ w3 = w2) :=
    mk_fun (O := tabL [([1, 1, 1, 1, 1, 0, 0], law01_DigestCuts_s0_se K), ([1, 1, 1, 1, 1, 1, 1, 1, 1, 1, 0, 0], law01_DigestCuts_s1_se K), ([1, 1, 1, 1, 1, 1, 1, 1, 1, 1, 1, 1, 0, 1], law01_DigestCuts_l2_se K), ([1, 1, 1, 1, 1, 1, 1, 1, 1, 1, 1, 1, 0, 1, 0, 0, 0, 0], law01_DigestCuts_s3_se K), ([1, 1, 1, 1, 1, 1, 1, 1, 1, 1, 1, 1, 0, 1, 0, 0, 1, 0, 0, 1, 0, 0], law01_DigestCuts_s4_se K), ([1, 1, 1, 1, 1, 1, 1, 1, 1, 1, 1, 1, 0, 1, 0, 0, 1, 0, 0, 1, 0, 1], law01_DigestCuts_s5_se K), ([1, 1, 1, 1, 1, 1, 1, 1, 1, 1, 1, 1, 0, 1, 0, 0, 1, 0, 0, 1, 1, 1, 0, 0], law01_DigestCuts_s6_se K), ([1, 1, 1, 1, 1, 1, 1, 1, 1, 1, 1, 1, 0, 1, 0, 0, 1, 0, 0, 1, 1, 1, 1, 1, 1, 1, 0, 0], law01_DigestCuts_s7_se K)]) (Lp := [(0, .agg)]) (Rt := [.bool]) (S := (fun x w => law01_DigestCuts K x.1 w)) (law01_DigestCuts_Eok K) (law01_DigestCuts_Rok K) rfl law01_DigestCuts_facts (Orc.cons (by kernel_rfl) (law01_DigestCuts_s0_se_ok K [(0, 227)] (by kernel_rfl)) (Orc.cons (by kernel_rfl) (law01_DigestCuts_s1_se_ok K [(0, 227)] (by kernel_rfl)) (Orc.cons (by kernel_rfl) (law01_DigestCuts_l2_se_ok K [(0, 227)] (by kernel_rfl)) (Orc.cons (by kernel_rfl) (law01_DigestCuts_s3_se_ok K [(0, 227)] (by kernel_rfl)) (Orc.cons (by kernel_rfl) (law01_DigestCuts_s4_se_ok K [(0, 227)] (by kernel_rfl)) (Orc.cons (by kernel_rfl) (law01_DigestCuts_s5_se_ok K [(0, 227)] (by kernel_rfl)) (Orc.cons (by kernel_rfl) (law01_DigestCuts_s6_se_ok K [(0, 227)] (by kernel_rfl)) (Orc.cons (by kernel_rfl) (law01_DigestCuts_s7_se_ok K [(0, 227)] (by kernel_rfl)) (Orc.nil _ _ _))))))))) (fun _ _ => by kernel_rfl) x w y w2 h
noncomputable def law01_DigestCuts_ce (K : Nat) : CE := funE [(0, .agg)] [.bool] (fun x w => law01_DigestCuts K x.1 w)
theorem law01_DigestCuts_ok (K : Nat) : (law01_DigestCuts_ce K).Ok prog 11 := funE_ok (Rt := [.bool]) (S := (fun x w => law01_DigestCuts K x.1 w)) law01_DigestCuts_facts fun x w y w2 h => law01_DigestCuts_calls K x w y w2 h

end Go.Sh
