/- Texts of this claim, put together: Sh2, Sh3 -/
import Derived.Test.YtcfolhdacolbjaaDoorAllShfljomm
/- What functions of the program do, as Lean functions; that the machine does just that. Printed by shal.py, a program of this claim's writer. -/
set_option maxRecDepth 100000
set_option linter.unusedVariables false
namespace Go.Sh
open Go.Fw Go.Proofs.Tryd

noncomputable def ref04_before_E (K : Nat) : List (Nat × CE) := [(29, ref04_plus_ce K), (25, ref04_spread_ce K)]
theorem ref04_before_Eok (K : Nat) : Env.Ok prog (tab (ref04_before_E K)) := (Env.cons (ref04_plus_ok K) (Env.cons (ref04_spread_ok K) (Env.nil _)))
noncomputable def ref04_before_R (K : Nat) : List (Nat × RE) := []
theorem ref04_before_Rok (K : Nat) : REnv.Ok prog (tab (ref04_before_R K)) := (REnv.nil _)
noncomputable def ref04_before_l0_b (K : Nat) (rec : Int → Int → Sl → Sl → Int → World → Option ((Sl × Unit) × World)) (hash0 : Int) (size1 : Int) (stripes2 : Sl) (d7 : Sl) (i8 : Int) (w : World) : Option ((Sl × Unit) × World) :=
  if (decide (i8 < ((stripes2.len : Nat) : Int))) = true then (if (0 : Int) ≤ (IntKind.i64.wrap (i8 + size1)) ∧ (IntKind.i64.wrap (i8 + size1)) ≤ ((stripes2.cap : Nat) : Int) then (if (0 : Int) ≤ i8 ∧ i8 ≤ (((Int.toNat ((IntKind.i64.wrap (i8 + size1)))) : Nat) : Int) then (bnd (ref04_plus K d7 ⟨(sla stripes2.a (Int.toNat (i8)) stripes2.cap 1), ((Int.toNat ((IntKind.i64.wrap (i8 + size1)))) - (Int.toNat (i8))), (stripes2.cap - (Int.toNat (i8)))⟩ w) fun r_3 w_4 =>
  bnd (ref04_spread K hash0 r_3.1 w_4) fun r_5 w_6 =>
  rec hash0 size1 stripes2 r_5.1 (IntKind.i64.wrap (i8 + size1)) w_6) else none) else none) else (some ((d7, ()), w))
noncomputable def ref04_before_l0 (K : Nat) (n : Nat) : Int → Int → Sl → Sl → Int → World → Option ((Sl × Unit) × World) := iter (fun _ _ _ _ _ _ => none) (ref04_before_l0_b K) n
/-- coffer/cofferref04.before -/
noncomputable def ref04_before (K : Nat) (hash0 : Int) (size1 : Int) (stripes2 : Sl) (w : World) : Option ((Sl × Unit) × World) :=
  bnd (mkS prog 22 (.int .i64 size1) (.int .i64 size1) w) fun s_1 w_2 =>
  bnd (ref04_before_l0 K K hash0 size1 stripes2 s_1 0 w_2) fun y_7 w_8 =>
  some ((y_7.1, ()), w_8)
theorem ref04_before_l0_ok (K : Nat) (n : Nat) : StmtNOk prog [(0, .int .i64), (1, .int .i64), (2, .sl), (7, .sl), (8, .int .i64)] [(7, .sl)] [(7, 10), (12, 30)] ((fun n x w => ref04_before_l0 K n x.1 x.2.1 x.2.2.1 x.2.2.2.1 x.2.2.2.2.1 w) n) (.block 0 (.loop (cd (bodyOf f28) [1, 1, 0, 1, 0, 0]))) :=
    mk_loopN (O := tabL []) (root := (bodyOf f28)) (π := [1, 1, 0, 1, 0, 0]) (id := 0) (Li := [(0, .int .i64), (1, .int .i64), (2, .sl), (7, .sl), (8, .int .i64)]) (Lo := [(7, .sl)]) (S := (fun n x w => ref04_before_l0 K n x.1 x.2.1 x.2.2.1 x.2.2.2.1 x.2.2.2.2.1 w)) (body := cd (bodyOf f28) [1, 1, 0, 1, 0, 0]) (ref04_before_Eok K) (ref04_before_Rok K) rfl (Orc.nil _ _ _) (by kernel_rfl) (fun _ _ => by kernel_rfl) (fun _ _ _ => by kernel_rfl) n
noncomputable def ref04_before_l0_se (K : Nat) : SE := stmtN [(0, .int .i64), (1, .int .i64), (2, .sl), (7, .sl), (8, .int .i64)] [(7, .sl)] [(7, 10), (12, 30)] (fun x w => ref04_before_l0 K K x.1 x.2.1 x.2.2.1 x.2.2.2.1 x.2.2.2.2.1 w)
theorem ref04_before_l0_se_ok (K : Nat) (R : Rg) (h : subRB [(7, 10), (12, 30)] R = true) : (ref04_before_l0_se K).Ok prog R (.block 0 (.loop (cd (bodyOf f28) [1, 1, 0, 1, 0, 0]))) := stmtN_ok (Li := [(0, .int .i64), (1, .int .i64), (2, .sl), (7, .sl), (8, .int .i64)]) (Lo := [(7, .sl)]) (S := (fun x w => ref04_before_l0 K K x.1 x.2.1 x.2.2.1 x.2.2.2.1 x.2.2.2.2.1 w)) (ref04_before_l0_ok K K) (subR_of h)
theorem ref04_before_facts : FunFacts prog 28 f28 (bodyOf f28) [(0, .int .i64), (1, .int .i64), (2, .sl)] [(0, 31)] := ⟨func28, by kernel_rfl, by kernel_rfl, by kernel_rfl, by kernel_rfl, by kernel_rfl⟩
theorem ref04_before_calls (K : Nat) (x : TT [(0, .int .i64), (1, .int .i64), (2, .sl)]) (w : World) (y : TR [.sl]) (w2 : World) (h : ref04_before K x.1 x.2.1 x.2.2.1 w = some (y, w2)) : Calls prog 28 (encA [(0, .int .i64), (1, .int .i64), (2, .sl)] x).toArray w (fun e w3 => e = .returned (resV (encR [.sl] y)) ∧ w3 = w2) :=
    mk_fun (O := tabL [([1, 1, 0, 1], ref04_before_l0_se K)]) (Lp := [(0, .int .i64), (1, .int .i64), (2, .sl)]) (Rt := [.sl]) (S := (fun x w => ref04_before K x.1 x.2.1 x.2.2.1 w)) (ref04_before_Eok K) (ref04_before_Rok K) rfl ref04_before_facts (Orc.cons (by kernel_rfl) (ref04_before_l0_se_ok K [(0, 31)] (by kernel_rfl)) (Orc.nil _ _ _)) (fun _ _ => by kernel_rfl) x w y w2 h
noncomputable def ref04_before_ce (K : Nat) : CE := funE [(0, .int .i64), (1, .int .i64), (2, .sl)] [.sl] (fun x w => ref04_before K x.1 x.2.1 x.2.2.1 w)
theorem ref04_before_ok (K : Nat) : (ref04_before_ce K).Ok prog 28 := funE_ok (Rt := [.sl]) (S := (fun x w => ref04_before K x.1 x.2.1 x.2.2.1 w)) ref04_before_facts fun x w y w2 h => ref04_before_calls K x w y w2 h

noncomputable def ref04_Merge_E (K : Nat) : List (Nat × CE) := [(28, ref04_before_ce K), (29, ref04_plus_ce K)]
theorem ref04_Merge_Eok (K : Nat) : Env.Ok prog (tab (ref04_Merge_E K)) := (Env.cons (ref04_before_ok K) (Env.cons (ref04_plus_ok K) (Env.nil _)))
noncomputable def ref04_Merge_R (K : Nat) : List (Nat × RE) := [(24, ref01_Size_re)]
theorem ref04_Merge_Rok (K : Nat) : REnv.Ok prog (tab (ref04_Merge_R K)) := (REnv.cons (ref01_Size_ok) (REnv.nil _))
noncomputable def ref04_Merge_s0 (K : Nat) (stripes2 : Int) (w : World) : Option ((Bool × Unit) × World) :=
  if (decide (stripes2 < 1)) = true then (some ((true, ()), w)) else (some (((decide (stripes2 > 4000)), ()), w))
noncomputable def ref04_Merge_s1 (K : Nat) (material1 : Sl) (stripes2 : Int) (w : World) : Option ((Bool × Unit) × World) :=
  if (((material1.len : Nat) : Int) == 0) = true then (some ((true, ()), w)) else (if stripes2 ≠ 0 then (if ((Int.tmod ((material1.len : Nat) : Int) stripes2) != 0) = true then (some ((true, ()), w)) else (some (((decide (((material1.len : Nat) : Int) > (IntKind.i64.wrap (1024 * stripes2)))), ()), w))) else none)
/-- coffer/cofferref04.Merge -/
noncomputable def ref04_Merge (K : Nat) (hash0 : Int) (material1 : Sl) (stripes2 : Int) (w : World) : Option ((Sl × Int × Unit) × World) :=
  (ref01_Size hash0).bind fun r_1 =>
  if (r_1.1 == 0) = true then (some ((⟨none, 0, 0⟩, 10, ()), w)) else (bnd (ref04_Merge_s0 K stripes2 w) fun y_2 w_3 =>
  if y_2.1 = true then (some ((⟨none, 0, 0⟩, 40, ()), w_3)) else (bnd (ref04_Merge_s1 K material1 stripes2 w_3) fun y_4 w_5 =>
  if y_4.1 = true then (some ((⟨none, 0, 0⟩, 41, ()), w_5)) else (if stripes2 ≠ 0 then (if (0 : Int) ≤ (IntKind.i64.wrap (((material1.len : Nat) : Int) - (IntKind.i64.wrap (Int.tdiv ((material1.len : Nat) : Int) stripes2)))) ∧ (IntKind.i64.wrap (((material1.len : Nat) : Int) - (IntKind.i64.wrap (Int.tdiv ((material1.len : Nat) : Int) stripes2)))) ≤ ((material1.cap : Nat) : Int) then (bnd (ref04_before K hash0 (IntKind.i64.wrap (Int.tdiv ((material1.len : Nat) : Int) stripes2)) ⟨(sla material1.a 0 material1.cap 1), ((Int.toNat ((IntKind.i64.wrap (((material1.len : Nat) : Int) - (IntKind.i64.wrap (Int.tdiv ((material1.len : Nat) : Int) stripes2)))))) - 0), (material1.cap - 0)⟩ w_5) fun r_6 w_7 =>
  if (0 : Int) ≤ (IntKind.i64.wrap (((material1.len : Nat) : Int) - (IntKind.i64.wrap (Int.tdiv ((material1.len : Nat) : Int) stripes2)))) ∧ (IntKind.i64.wrap (((material1.len : Nat) : Int) - (IntKind.i64.wrap (Int.tdiv ((material1.len : Nat) : Int) stripes2)))) ≤ ((material1.len : Nat) : Int) then (bnd (ref04_plus K r_6.1 ⟨(sla material1.a (Int.toNat ((IntKind.i64.wrap (((material1.len : Nat) : Int) - (IntKind.i64.wrap (Int.tdiv ((material1.len : Nat) : Int) stripes2)))))) material1.cap 1), (material1.len - (Int.toNat ((IntKind.i64.wrap (((material1.len : Nat) : Int) - (IntKind.i64.wrap (Int.tdiv ((material1.len : Nat) : Int) stripes2))))))), (material1.cap - (Int.toNat ((IntKind.i64.wrap (((material1.len : Nat) : Int) - (IntKind.i64.wrap (Int.tdiv ((material1.len : Nat) : Int) stripes2)))))))⟩ w_7) fun r_8 w_9 =>
  some ((r_8.1, 0, ()), w_9)) else none) else none) else none)))
theorem ref04_Merge_s0_ok (K : Nat) : StmtNOk prog [(2, .int .i64)] [(19, .bool)] [(14, 20)] (fun x w => ref04_Merge_s0 K x.1 w) (cd (bodyOf f16) [1, 1, 0, 0]) :=
    mk_stmtN (O := tabL []) (root := (bodyOf f16)) (π := [1, 1, 0, 0]) (Li := [(2, .int .i64)]) (Lo := [(19, .bool)]) (S := (fun x w => ref04_Merge_s0 K x.1 w)) (ref04_Merge_Eok K) (ref04_Merge_Rok K) rfl (Orc.nil _ _ _) (by kernel_rfl) (fun _ _ => by kernel_rfl)
noncomputable def ref04_Merge_s0_se (K : Nat) : SE := stmtN [(2, .int .i64)] [(19, .bool)] [(14, 20)] (fun x w => ref04_Merge_s0 K x.1 w)
theorem ref04_Merge_s0_se_ok (K : Nat) (R : Rg) (h : subRB [(14, 20)] R = true) : (ref04_Merge_s0_se K).Ok prog R (cd (bodyOf f16) [1, 1, 0, 0]) := stmtN_ok (Li := [(2, .int .i64)]) (Lo := [(19, .bool)]) (S := (fun x w => ref04_Merge_s0 K x.1 w)) (ref04_Merge_s0_ok K) (subR_of h)
theorem ref04_Merge_s1_ok (K : Nat) : StmtNOk prog [(1, .sl), (2, .int .i64)] [(36, .bool)] [(20, 37)] (fun x w => ref04_Merge_s1 K x.1 x.2.1 w) (cd (bodyOf f16) [1, 1, 1, 0, 0]) :=
    mk_stmtN (O := tabL []) (root := (bodyOf f16)) (π := [1, 1, 1, 0, 0]) (Li := [(1, .sl), (2, .int .i64)]) (Lo := [(36, .bool)]) (S := (fun x w => ref04_Merge_s1 K x.1 x.2.1 w)) (ref04_Merge_Eok K) (ref04_Merge_Rok K) rfl (Orc.nil _ _ _) (by kernel_rfl) (fun _ _ => by kernel_rfl)
noncomputable def ref04_Merge_s1_se (K : Nat) : SE := stmtN [(1, .sl), (2, .int .i64)] [(36, .bool)] [(20, 37)] (fun x w => ref04_Merge_s1 K x.1 x.2.1 w)
theorem ref04_Merge_s1_se_ok (K : Nat) (R : Rg) (h : subRB [(20, 37)] R = true) : (ref04_Merge_s1_se K).Ok prog R (cd (bodyOf f16) [1, 1, 1, 0, 0]) := stmtN_ok (Li := [(1, .sl), (2, .int .i64)]) (Lo := [(36, .bool)]) (S := (fun x w => ref04_Merge_s1 K x.1 x.2.1 w)) (ref04_Merge_s1_ok K) (subR_of h)
theorem ref04_Merge_facts : FunFacts prog 16 f16 (bodyOf f16) [(0, .int .i64), (1, .sl), (2, .int .i64)] [(0, 56)] := ⟨func16, by kernel_rfl, by kernel_rfl, by kernel_rfl, by kernel_rfl, by kernel_rfl⟩
theorem ref04_Merge_calls (K : Nat) (x : TT [(0, .int .i64), (1, .sl), (2, .int .i64)]) (w : World) (y : TR [.sl, .int .i64]) (w2 : World) (h : ref04_Merge K x.1 x.2.1 x.2.2.1 w = some (y, w2)) : Calls prog 16 (encA [(0, .int .i64), (1, .sl), (2, .int .i64)] x).toArray w (fun e w3 => e = .returned (resV (encR [.sl, .int .i64] y)) ∧ w3 = w2) :=
    mk_fun (O := tabL [([1, 1, 0, 0], ref04_Merge_s0_se K), ([1, 1, 1, 0, 0], ref04_Merge_s1_se K)]) (Lp := [(0, .int .i64), (1, .sl), (2, .int .i64)]) (Rt := [.sl, .int .i64]) (S := (fun x w => ref04_Merge K x.1 x.2.1 x.2.2.1 w)) (ref04_Merge_Eok K) (ref04_Merge_Rok K) rfl ref04_Merge_facts (Orc.cons (by kernel_rfl) (ref04_Merge_s0_se_ok K [(0, 56)] (by kernel_rfl)) (Orc.cons (by kernel_rfl) (ref04_Merge_s1_se_ok K [(0, 56)] (by kernel_rfl)) (Orc.nil _ _ _))) (fun _ _ => by kernel_rfl) x w y w2 h
noncomputable def ref04_Merge_ce (K : Nat) : CE := funE [(0, .int .i64), (1, .sl), (2, .int .i64)] [.sl, .int .i64] (fun x w => ref04_Merge K x.1 x.2.1 x.2.2.1 w)
theorem ref04_Merge_ok (K : Nat) : (ref04_Merge_ce K).Ok prog 16 := funE_ok (Rt := [.sl, .int .i64]) (S := (fun x w => ref04_Merge K x.1 x.2.1 x.2.2.1 w)) ref04_Merge_facts fun x w y w2 h => ref04_Merge_calls K x w y w2 h

noncomputable def ref04_Random_R : List (Nat × RE) := []
theorem ref04_Random_Rok : REnv.Ok prog (tab (ref04_Random_R)) := (REnv.nil _)
noncomputable def ref04_Random_s0 (stripes1 : Int) : Option (Out (Bool × Unit) (Int × Int × Unit)) :=
  if (decide (stripes1 < 1)) = true then (some (.norm (true, ()))) else (some (.norm ((decide (stripes1 > 4000)), ())))
/-- coffer/cofferref04.Random -/
noncomputable def ref04_Random (size0 : Int) (stripes1 : Int) : Option (Int × Int × Unit) :=
  if (decide (size0 < 1)) = true then (some (0, 5, ())) else (if (decide (size0 > 1024)) = true then (some (0, 4, ())) else ((ref04_Random_s0 stripes1).bind fun y_1 =>
  (match y_1 with
  | .norm z_2n => (if z_2n.1 = true then (some (0, 40, ())) else (some ((IntKind.i64.wrap (size0 * (IntKind.i64.wrap (stripes1 - 1)))), 0, ())))
  | .ret z_2r => (some (z_2r.1, z_2r.2.1, ())))))
theorem ref04_Random_s0_ok : StmtQOk prog [(1, .int .i64)] [(15, .bool)] [(4, .int .i64), (5, .int .i64)] [(10, 16)] (fun x w => ref04_Random_s0 x.1) (cd (bodyOf f31) [1, 1, 1, 0, 0]) :=
    mk_stmtQ (O := tabL []) (root := (bodyOf f31)) (π := [1, 1, 1, 0, 0]) (Li := [(1, .int .i64)]) (Lo := [(15, .bool)]) (Lr := [(4, .int .i64), (5, .int .i64)]) (S := (fun x w => ref04_Random_s0 x.1)) (ref04_Random_Rok) (OrcQ.nil _ _ _) (by kernel_rfl) (fun _ _ => by kernel_rfl)
noncomputable def ref04_Random_s0_se : SQ := stmtQ [(1, .int .i64)] [(15, .bool)] [(4, .int .i64), (5, .int .i64)] [(10, 16)] (fun x w => ref04_Random_s0 x.1)
theorem ref04_Random_s0_se_ok (R : Rg) (h : subRB [(10, 16)] R = true) : (ref04_Random_s0_se).Ok prog R (cd (bodyOf f31) [1, 1, 1, 0, 0]) := stmtQ_ok (Li := [(1, .int .i64)]) (Lo := [(15, .bool)]) (Lr := [(4, .int .i64), (5, .int .i64)]) (S := (fun x w => ref04_Random_s0 x.1)) (ref04_Random_s0_ok) (subR_of h)
theorem ref04_Random_facts : FunFacts prog 31 f31 (bodyOf f31) [(0, .int .i64), (1, .int .i64)] [(0, 20)] := ⟨func31, by kernel_rfl, by kernel_rfl, by kernel_rfl, by kernel_rfl, by kernel_rfl⟩
theorem ref04_Random_calls (x : TT [(0, .int .i64), (1, .int .i64)]) (w : World) (y : TR [.int .i64, .int .i64]) (h : ref04_Random x.1 x.2.1 = some y) : Calls prog 31 (encA [(0, .int .i64), (1, .int .i64)] x).toArray w (fun e w3 => e = .returned (resV (encR [.int .i64, .int .i64] y)) ∧ w3 = w) :=
    mk_funQ (O := tabL [([1, 1, 1, 0, 0], ref04_Random_s0_se)]) (Lp := [(0, .int .i64), (1, .int .i64)]) (Rt := [.int .i64, .int .i64]) (S := (fun x w => ref04_Random x.1 x.2.1)) (ref04_Random_Rok) ref04_Random_facts (OrcQ.cons (by kernel_rfl) (ref04_Random_s0_se_ok [(0, 20)] (by kernel_rfl)) (OrcQ.nil _ _ _)) (fun _ _ => by kernel_rfl) x w y h
noncomputable def ref04_Random_re : RE := funR [(0, .int .i64), (1, .int .i64)] [.int .i64, .int .i64] (fun x w => ref04_Random x.1 x.2.1)
theorem ref04_Random_ok : (ref04_Random_re).Ok prog 31 := funR_ok (Rt := [.int .i64, .int .i64]) (S := (fun x w => ref04_Random x.1 x.2.1)) ref04_Random_facts fun x w y h => ref04_Random_calls x w y h

noncomputable def ref04_Split_E (K : Nat) : List (Nat × CE) := [(28, ref04_before_ce K), (29, ref04_plus_ce K)]
theorem ref04_Split_Eok (K : Nat) : Env.Ok prog (tab (ref04_Split_E K)) := (Env.cons (ref04_before_ok K) (Env.cons (ref04_plus_ok K) (Env.nil _)))
noncomputable def ref04_Split_R (K : Nat) : List (Nat × RE) := [(24, ref01_Size_re), (31, ref04_Random_re)]
theorem ref04_Split_Rok (K : Nat) : REnv.Ok prog (tab (ref04_Split_R K)) := (REnv.cons (ref01_Size_ok) (REnv.cons (ref04_Random_ok) (REnv.nil _)))
/-- coffer/cofferref04.Split -/
noncomputable def ref04_Split (K : Nat) (hash0 : Int) (secret1 : Sl) (stripes2 : Int) (random3 : Sl) (w : World) : Option ((Sl × Int × Unit) × World) :=
  (ref01_Size hash0).bind fun r_1 =>
  if (r_1.1 == 0) = true then (some ((⟨none, 0, 0⟩, 10, ()), w)) else ((ref04_Random ((secret1.len : Nat) : Int) stripes2).bind fun r_2 =>
  if (r_2.2.1 != 0) = true then (some ((⟨none, 0, 0⟩, r_2.2.1, ()), w)) else (if (((random3.len : Nat) : Int) != r_2.1) = true then (some ((⟨none, 0, 0⟩, 41, ()), w)) else (bnd (apd prog 22 22 (.slice none 0 0) (.slice random3.a random3.len random3.cap) w) fun s_3 w_4 =>
  bnd (ref04_before K hash0 ((secret1.len : Nat) : Int) random3 w_4) fun r_5 w_6 =>
  bnd (ref04_plus K r_5.1 secret1 w_6) fun r_7 w_8 =>
  bnd (apd prog 22 22 (.slice s_3.a s_3.len s_3.cap) (.slice r_7.1.a r_7.1.len r_7.1.cap) w_8) fun s_9 w_10 =>
  some ((s_9, 0, ()), w_10))))
theorem ref04_Split_facts : FunFacts prog 18 f18 (bodyOf f18) [(0, .int .i64), (1, .sl), (2, .int .i64), (3, .sl)] [(0, 46)] := ⟨func18, by kernel_rfl, by kernel_rfl, by kernel_rfl, by kernel_rfl, by kernel_rfl⟩
theorem ref04_Split_calls (K : Nat) (x : TT [(0, .int .i64), (1, .sl), (2, .int .i64), (3, .sl)]) (w : World) (y : TR [.sl, .int .i64]) (w2 : World) (h : ref04_Split K x.1 x.2.1 x.2.2.1 x.2.2.2.1 w = some (y, w2)) : Calls prog 18 (encA [(0, .int .i64), (1, .sl), (2, .int .i64), (3, .sl)] x).toArray w (fun e w3 => e = .returned (resV (encR [.sl, .int .i64] y)) ∧ w3 = w2) :=
    mk_fun (O := tabL []) (Lp := [(0, .int .i64), (1, .sl), (2, .int .i64), (3, .sl)]) (Rt := [.sl, .int .i64]) (S := (fun x w => ref04_Split K x.1 x.2.1 x.2.2.1 x.2.2.2.1 w)) (ref04_Split_Eok K) (ref04_Split_Rok K) rfl ref04_Split_facts (Orc.nil _ _ _) (fun _ _ => by kernel_rfl) x w y w2 h
noncomputable def ref04_Split_ce (K : Nat) : CE := funE [(0, .int .i64), (1, .sl), (2, .int .i64), (3, .sl)] [.sl, .int .i64] (fun x w => ref04_Split K x.1 x.2.1 x.2.2.1 x.2.2.2.1 w)
theorem ref04_Split_ok (K : Nat) : (ref04_Split_ce K).Ok prog 18 := funE_ok (Rt := [.sl, .int .i64]) (S := (fun x w => ref04_Split K x.1 x.2.1 x.2.2.1 x.2.2.2.1 w)) ref04_Split_facts fun x w y w2 h => ref04_Split_calls K x w y w2 h

noncomputable def law04_known_R : List (Nat × RE) := []
theorem law04_known_Rok : REnv.Ok prog (tab (law04_known_R)) := (REnv.nil _)
/-- coffer/cofferlaw04.known -/
noncomputable def law04_known (hash0 : Int) : Option (Bool × Unit) :=
  if (hash0 == 224) = true then (some (true, ())) else (if (hash0 == 256) = true then (some (true, ())) else (if (hash0 == 384) = true then (some (true, ())) else (some ((hash0 == 512), ()))))
theorem law04_known_facts : FunFacts prog 19 f19 (bodyOf f19) [(0, .int .i64)] [(0, 17)] := ⟨func19, by kernel_rfl, by kernel_rfl, by kernel_rfl, by kernel_rfl, by kernel_rfl⟩
theorem law04_known_calls (x : TT [(0, .int .i64)]) (w : World) (y : TR [.bool]) (h : law04_known x.1 = some y) : Calls prog 19 (encA [(0, .int .i64)] x).toArray w (fun e w3 => e = .returned (resV (encR [.bool] y)) ∧ w3 = w) :=
    mk_funQ (O := tabL []) (Lp := [(0, .int .i64)]) (Rt := [.bool]) (S := (fun x w => law04_known x.1)) (law04_known_Rok) law04_known_facts (OrcQ.nil _ _ _) (fun _ _ => by kernel_rfl) x w y h
noncomputable def law04_known_re : RE := funR [(0, .int .i64)] [.bool] (fun x w => law04_known x.1)
theorem law04_known_ok : (law04_known_re).Ok prog 19 := funR_ok (Rt := [.bool]) (S := (fun x w => law04_known x.1)) law04_known_facts fun x w y h => law04_known_calls x w y h

noncomputable def law04_filled_E (K : Nat) : List (Nat × CE) := []
theorem law04_filled_Eok (K : Nat) : Env.Ok prog (tab (law04_filled_E K)) := (Env.nil _)
noncomputable def law04_filled_R (K : Nat) : List (Nat × RE) := []
theorem law04_filled_Rok (K : Nat) : REnv.Ok prog (tab (law04_filled_R K)) := (REnv.nil _)
noncomputable def law04_filled_s1 (K : Nat) (n0 : Int) (from1 : Sl) (i6 : Int) (w : World) : Option ((Bool × Unit) × World) :=
  if (decide (i6 < n0)) = true then (some (((decide (((from1.len : Nat) : Int) > 0)), ()), w)) else (some ((false, ()), w))
noncomputable def law04_filled_l0_b (K : Nat) (rec : Int → Sl → Sl → Int → World → Option ((Unit) × World)) (n0 : Int) (from1 : Sl) (b5 : Sl) (i6 : Int) (w : World) : Option ((Unit) × World) :=
  bnd (law04_filled_s1 K n0 from1 i6 w) fun y_3 w_4 =>
  if y_3.1 = true then (if ((from1.len : Nat) : Int) ≠ 0 then ((from1.a).bind fun p_5 =>
  if (0 : Int) ≤ (Int.tmod i6 ((from1.len : Nat) : Int)) ∧ (Int.tmod i6 ((from1.len : Nat) : Int)) < ((from1.len : Nat) : Int) then (if ((from1.len : Nat) : Int) ≠ 0 then ((ldI .u8 (p_5.add ((Int.toNat (Int.tmod i6 ((from1.len : Nat) : Int))) * 1)) w_4.drew).bind fun v_6 =>
  (b5.a).bind fun p_7 =>
  if (0 : Int) ≤ i6 ∧ i6 < ((b5.len : Nat) : Int) then ((stC (p_7.add ((Int.toNat i6) * 1)) (.int .u8 (IntKind.u8.wrap (v_6 + (IntKind.u8.wrap (IntKind.i64.wrap (Int.tdiv i6 ((from1.len : Nat) : Int))))))) w_4.drew).bind fun w_8 =>
  rec n0 from1 b5 (IntKind.i64.wrap (i6 + 1)) w_8) else none) else none) else none) else none) else (some ((), w_4))
noncomputable def law04_filled_l0 (K : Nat) (n : Nat) : Int → Sl → Sl → Int → World → Option ((Unit) × World) := iter (fun _ _ _ _ _ => none) (law04_filled_l0_b K) n
/-- coffer/cofferlaw04.filled -/
noncomputable def law04_filled (K : Nat) (n0 : Int) (from1 : Sl) (w : World) : Option ((Sl × Unit) × World) :=
  bnd (mkS prog 22 (.int .i64 n0) (.int .i64 n0) w) fun s_1 w_2 =>
  bnd (law04_filled_l0 K K n0 from1 s_1 0 w_2) fun y_9 w_10 =>
  some ((s_1, ()), w_10)
theorem law04_filled_s1_ok (K : Nat) : StmtNOk prog [(0, .int .i64), (1, .sl), (6, .int .i64)] [(16, .bool)] [(9, 17)] (fun x w => law04_filled_s1 K x.1 x.2.1 x.2.2.1 w) (cd (bodyOf f20) [1, 1, 0, 1, 0, 0, 0, 0]) :=
    mk_stmtN (O := tabL []) (root := (bodyOf f20)) (π := [1, 1, 0, 1, 0, 0, 0, 0]) (Li := [(0, .int .i64), (1, .sl), (6, .int .i64)]) (Lo := [(16, .bool)]) (S := (fun x w => law04_filled_s1 K x.1 x.2.1 x.2.2.1 w)) (law04_filled_Eok K) (law04_filled_Rok K) rfl (Orc.nil _ _ _) (by kernel_rfl) (fun _ _ => by kernel_rfl)
noncomputable def law04_filled_s1_se (K : Nat) : SE := stmtN [(0, .int .i64), (1, .sl), (6, .int .i64)] [(16, .bool)] [(9, 17)] (fun x w => law04_filled_s1 K x.1 x.2.1 x.2.2.1 w)
theorem law04_filled_s1_se_ok (K : Nat) (R : Rg) (h : subRB [(9, 17)] R = true) : (law04_filled_s1_se K).Ok prog R (cd (bodyOf f20) [1, 1, 0, 1, 0, 0, 0, 0]) := stmtN_ok (Li := [(0, .int .i64), (1, .sl), (6, .int .i64)]) (Lo := [(16, .bool)]) (S := (fun x w => law04_filled_s1 K x.1 x.2.1 x.2.2.1 w)) (law04_filled_s1_ok K) (subR_of h)
theorem law04_filled_l0_ok (K : Nat) (n : Nat) : StmtNOk prog [(0, .int .i64), (1, .sl), (5, .sl), (6, .int .i64)] [] [(6, 7), (9, 35)] ((fun n x w => law04_filled_l0 K n x.1 x.2.1 x.2.2.1 x.2.2.2.1 w) n) (.block 0 (.loop (cd (bodyOf f20) [1, 1, 0, 1, 0, 0]))) :=
    mk_loopN (O := tabL [([1, 1, 0, 1, 0, 0, 0, 0], law04_filled_s1_se K)]) (root := (bodyOf f20)) (π := [1, 1, 0, 1, 0, 0]) (id := 0) (Li := [(0, .int .i64), (1, .sl), (5, .sl), (6, .int .i64)]) (Lo := []) (S := (fun n x w => law04_filled_l0 K n x.1 x.2.1 x.2.2.1 x.2.2.2.1 w)) (body := cd (bodyOf f20) [1, 1, 0, 1, 0, 0]) (law04_filled_Eok K) (law04_filled_Rok K) rfl (Orc.cons (by kernel_rfl) (law04_filled_s1_se_ok K [(6, 7), (9, 35)] (by kernel_rfl)) (Orc.nil _ _ _)) (by kernel_rfl) (fun _ _ => by kernel_rfl) (fun _ _ _ => by kernel_rfl) n
noncomputable def law04_filled_l0_se (K : Nat) : SE := stmtN [(0, .int .i64), (1, .sl), (5, .sl), (6, .int .i64)] [] [(6, 7), (9, 35)] (fun x w => law04_filled_l0 K K x.1 x.2.1 x.2.2.1 x.2.2.2.1 w)
theorem law04_filled_l0_se_ok (K : Nat) (R : Rg) (h : subRB [(6, 7), (9, 35)] R = true) : (law04_filled_l0_se K).Ok prog R (.block 0 (.loop (cd (bodyOf f20) [1, 1, 0, 1, 0, 0]))) := stmtN_ok (Li := [(0, .int .i64), (1, .sl), (5, .sl), (6, .int .i64)]) (Lo := []) (S := (fun x w => law04_filled_l0 K K x.1 x.2.1 x.2.2.1 x.2.2.2.1 w)) (law04_filled_l0_ok K K) (subR_of h)
theorem law04_filled_facts : FunFacts prog 20 f20 (bodyOf f20) [(0, .int .i64), (1, .sl)] [(0, 36)] := ⟨func20, by kernel_rfl, by kernel_rfl, by kernel_rfl, by kernel_rfl, by kernel_rfl⟩
theorem law04_filled_calls (K : Nat) (x : TT [(0, .int .i64), (1, .sl)]) (w : World) (y : TR [.sl]) (w2 : World) (h : law04_filled K x.1 x.2.1 w = some (y, w2)) : Calls prog 20 (encA [(0, .int .i64), (1, .sl)] x).toArray w (fun e w3 => e = .returned (resV (encR [.sl] y)) ∧ w3 = w2) :=
    mk_fun (O := tabL [([1, 1, 0, 1], law04_filled_l0_se K), ([1, 1, 0, 1, 0, 0, 0, 0], law04_filled_s1_se K)]) (Lp := [(0, .int .i64), (1, .sl)]) (Rt := [.sl]) (S := (fun x w => law04_filled K x.1 x.2.1 w)) (law04_filled_Eok K) (law04_filled_Rok K) rfl law04_filled_facts (Orc.cons (by kernel_rfl) (law04_filled_l0_se_ok K [(0, 36)] (by kernel_rfl)) (Orc.cons (by kernel_rfl) (law04_filled_s1_se_ok K [(0, 36)] (by kernel_rfl)) (Orc.nil _ _ _))) (fun _ _ => by kernel_rfl) x w y w2 h
noncomputable def law04_filled_ce (K : Nat) : CE := funE [(0, .int .i64), (1, .sl)] [.sl] (fun x w => law04_filled K x.1 x.2.1 w)
theorem law04_filled_ok (K : Nat) : (law04_filled_ce K).Ok prog 20 := funE_ok (Rt := [.sl]) (S := (fun x w => law04_filled K x.1 x.2.1 w)) law04_filled_facts fun x w y w2 h => law04_filled_calls K x w y w2 h

noncomputable def digest_kindOf_E : List (Nat × CE) := []
theorem digest_kindOf_Eok : Env.Ok prog (tab (digest_kindOf_E)) := (Env.nil _)
noncomputable def digest_kindOf_R : List (Nat × RE) := []
theorem digest_kindOf_Rok : REnv.Ok prog (tab (digest_kindOf_R)) := (REnv.nil _)
noncomputable def digest_kindOf_s0 (a4 : Int) (a5 : Bool) (w : World) : Option ((Bool × Unit) × World) :=
  if a5 = true then (some ((true, ()), w)) else (some (((a4 == 256), ()), w))
noncomputable def digest_kindOf_s1 (a4 : Int) (a11 : Bool) (w : World) : Option ((Bool × Unit) × World) :=
  if a11 = true then (some ((true, ()), w)) else (some (((a4 == 512), ()), w))
/-- coffer/digest.kindOf -/
noncomputable def digest_kindOf (hash0 : Int) (w : World) : Option (((Array Value) × Bool × Unit) × World) :=
  bnd (newB z56 56 w) fun p_1 w_2 =>
  bnd (digest_kindOf_s0 hash0 (hash0 == 224) w_2) fun y_3 w_4 =>
  if y_3.1 = true then ((prog.built 56 [(0, (.int .i64 (IntKind.i64.wrap (Int.tdiv hash0 8)))), (1, (.int .i64 64)), (2, (.int .i64 4)), (3, (.func (.func 37) #[] #[]))]).bind fun cs_5 =>
  if (cs_5).size = 4 then ((stA p_1 cs_5 w_4).bind fun w_6 =>
  (ldA 4 p_1 w_6).bind fun res_7 =>
  some ((res_7, true, ()), w_6)) else none) else (bnd (digest_kindOf_s1 hash0 (hash0 == 384) w_4) fun y_8 w_9 =>
  if y_8.1 = true then ((prog.built 56 [(0, (.int .i64 (IntKind.i64.wrap (Int.tdiv hash0 8)))), (1, (.int .i64 128)), (2, (.int .i64 8)), (3, (.func (.func 38) #[] #[]))]).bind fun cs_10 =>
  if (cs_10).size = 4 then ((stA p_1 cs_10 w_9).bind fun w_11 =>
  (ldA 4 p_1 w_11).bind fun res_12 =>
  some ((res_12, true, ()), w_11)) else none) else ((prog.built 56 []).bind fun cs_13 =>
  if (cs_13).size = 4 then ((stA p_1 cs_13 w_9).bind fun w_14 =>
  (ldA 4 p_1 w_14).bind fun res_15 =>
  some ((res_15, false, ()), w_14)) else none))
theorem digest_kindOf_s0_ok : StmtNOk prog [(4, .int .i64), (5, .bool)] [(5, .bool)] [(5, 6), (7, 8)] (fun x w => digest_kindOf_s0 x.1 x.2.1 w) (cd (bodyOf f32) [1, 0, 1, 0, 0, 1]) :=
    mk_stmtN (O := tabL []) (root := (bodyOf f32)) (π := [1, 0, 1, 0, 0, 1]) (Li := [(4, .int .i64), (5, .bool)]) (Lo := [(5, .bool)]) (S := (fun x w => digest_kindOf_s0 x.1 x.2.1 w)) (digest_kindOf_Eok) (digest_kindOf_Rok) rfl (Orc.nil _ _ _) (by kernel_rfl) (fun _ _ => by kernel_rfl)
noncomputable def digest_kindOf_s0_se : SE := stmtN [(4, .int .i64), (5, .bool)] [(5, .bool)] [(5, 6), (7, 8)] (fun x w => digest_kindOf_s0 x.1 x.2.1 w)
theorem digest_kindOf_s0_se_ok (R : Rg) (h : subRB [(5, 6), (7, 8)] R = true) : (digest_kindOf_s0_se).Ok prog R (cd (bodyOf f32) [1, 0, 1, 0, 0, 1]) := stmtN_ok (Li := [(4, .int .i64), (5, .bool)]) (Lo := [(5, .bool)]) (S := (fun x w => digest_kindOf_s0 x.1 x.2.1 w)) (digest_kindOf_s0_ok) (subR_of h)
theorem digest_kindOf_s1_ok : StmtNOk prog [(4, .int .i64), (11, .bool)] [(11, .bool)] [(11, 12), (13, 14)] (fun x w => digest_kindOf_s1 x.1 x.2.1 w) (cd (bodyOf f32) [1, 0, 1, 0, 1, 1, 0, 1]) :=
    mk_stmtN (O := tabL []) (root := (bodyOf f32)) (π := [1, 0, 1, 0, 1, 1, 0, 1]) (Li := [(4, .int .i64), (11, .bool)]) (Lo := [(11, .bool)]) (S := (fun x w => digest_kindOf_s1 x.1 x.2.1 w)) (digest_kindOf_Eok) (digest_kindOf_Rok) rfl (Orc.nil _ _ _) (by kernel_rfl) (fun _ _ => by kernel_rfl)
noncomputable def digest_kindOf_s1_se : SE := stmtN [(4, .int .i64), (11, .bool)] [(11, .bool)] [(11, 12), (13, 14)] (fun x w => digest_kindOf_s1 x.1 x.2.1 w)
theorem digest_kindOf_s1_se_ok (R : Rg) (h : subRB [(11, 12), (13, 14)] R = true) : (digest_kindOf_s1_se).Ok prog R (cd (bodyOf f32) [1, 0, 1, 0, 1, 1, 0, 1]) := stmtN_ok (Li := [(4, .int .i64), (11, .bool)]) (Lo := [(11, .bool)]) (S := (fun x w => digest_kindOf_s1 x.1 x.2.1 w)) (digest_kindOf_s1_ok) (subR_of h)
theorem digest_kindOf_facts : FunFacts prog 32 f32 (bodyOf f32) [(0, .int .i64)] [(0, 18)] := ⟨func32, by kernel_rfl, by kernel_rfl, by kernel_rfl, by kernel_rfl, by kernel_rfl⟩
theorem digest_kindOf_calls (x : TT [(0, .int .i64)]) (w : World) (y : TR [.agg, .bool]) (w2 : World) (h : digest_kindOf x.1 w = some (y, w2)) : Calls prog 32 (encA [(0, .int .i64)] x).toArray w (fun e w3 => e = .returned (resV (encR [.agg, .bool] y)) ∧ w3 = w2) :=
    mk_fun (O := tabL [([1, 0, 1, 0, 0, 1], digest_kindOf_s0_se), ([1, 0, 1, 0, 1, 1, 0, 1], digest_kindOf_s1_se)]) (Lp := [(0, .int .i64)]) (Rt := [.agg, .bool]) (S := (fun x w => digest_kindOf x.1 w)) (digest_kindOf_Eok) (digest_kindOf_Rok) rfl digest_kindOf_facts (Orc.cons (by kernel_rfl) (digest_kindOf_s0_se_ok [(0, 18)] (by kernel_rfl)) (Orc.cons (by kernel_rfl) (digest_kindOf_s1_se_ok [(0, 18)] (by kernel_rfl)) (Orc.nil _ _ _))) (fun _ _ => by kernel_rfl) x w y w2 h
noncomputable def digest_kindOf_ce : CE := funE [(0, .int .i64)] [.agg, .bool] (fun x w => digest_kindOf x.1 w)
theorem digest_kindOf_ok : (digest_kindOf_ce).Ok prog 32 := funE_ok (Rt := [.agg, .bool]) (S := (fun x w => digest_kindOf x.1 w)) digest_kindOf_facts fun x w y w2 h => digest_kindOf_calls x w y w2 h

noncomputable def digest_Size_E : List (Nat × CE) := [(32, digest_kindOf_ce)]
theorem digest_Size_Eok : Env.Ok prog (tab (digest_Size_E)) := (Env.cons (digest_kindOf_ok) (Env.nil _))
noncomputable def digest_Size_R : List (Nat × RE) := []
theorem digest_Size_Rok : REnv.Ok prog (tab (digest_Size_R)) := (REnv.nil _)
/-- coffer/digest.Size -/
noncomputable def digest_Size (hash0 : Int) (w : World) : Option ((Int × Unit) × World) :=
  bnd (digest_kindOf hash0 w) fun r_1 w_2 =>
  bnd (newB z56 56 w_2) fun k_3 w_4 =>
  if (r_1.1).size = 4 then ((stA k_3 r_1.1 w_4).bind fun w_5 =>
  (ldI .i64 (k_3.add 0) w_5).bind fun v_6 =>
  some ((v_6, ()), w_5)) else none
theorem digest_Size_facts : FunFacts prog 21 f21 (bodyOf f21) [(0, .int .i64)] [(0, 12)] := ⟨func21, by kernel_rfl, by kernel_rfl, by kernel_rfl, by kernel_rfl, by kernel_rfl⟩
theorem digest_Size_calls (x : TT [(0, .int .i64)]) (w : World) (y : TR [.int .i64]) (w2 : World) (h : digest_Size x.1 w = some (y, w2)) : Calls prog 21 (encA [(0, .int .i64)] x).toArray w (fun e w3 => e = .returned (resV (encR [.int .i64] y)) ∧ w3 = w2) :=
    mk_fun (O := tabL []) (Lp := [(0, .int .i64)]) (Rt := [.int .i64]) (S := (fun x w => digest_Size x.1 w)) (digest_Size_Eok) (digest_Size_Rok) rfl digest_Size_facts (Orc.nil _ _ _) (fun _ _ => by kernel_rfl) x w y w2 h
noncomputable def digest_Size_ce : CE := funE [(0, .int .i64)] [.int .i64] (fun x w => digest_Size x.1 w)
theorem digest_Size_ok : (digest_Size_ce).Ok prog 21 := funE_ok (Rt := [.int .i64]) (S := (fun x w => digest_Size x.1 w)) digest_Size_facts fun x w y w2 h => digest_Size_calls x w y w2 h

noncomputable def shred_blender_mix_E (K : Nat) : List (Nat × CE) := []
theorem shred_blender_mix_Eok (K : Nat) : Env.Ok prog (tab (shred_blender_mix_E K)) := (Env.nil _)
noncomputable def shred_blender_mix_R (K : Nat) : List (Nat × RE) := []
theorem shred_blender_mix_Rok (K : Nat) : REnv.Ok prog (tab (shred_blender_mix_R K)) := (REnv.nil _)
noncomputable def shred_blender_mix_l0_b (K : Nat) (rec : Option Addr → Sl → Int → Int → World → Option ((Unit) × World)) (b0 : Option Addr) (a6 : Sl) (a7 : Int) (a8 : Int) (w : World) : Option ((Unit) × World) :=
  if (decide (a8 < a7)) = true then ((a6.a).bind fun p_1 =>
  if (0 : Int) ≤ a8 ∧ a8 < ((a6.len : Nat) : Int) then ((ldI .u8 (p_1.add ((Int.toNat a8) * 1)) w).bind fun v_2 =>
  (b0).bind fun p_3 =>
  (ldS ((p_3.add 1).add 0) w).bind fun v_4 =>
  (v_4.a).bind fun p_5 =>
  if (0 : Int) ≤ a8 ∧ a8 < ((v_4.len : Nat) : Int) then ((ldI .u8 (p_5.add ((Int.toNat a8) * 1)) w).bind fun v_6 =>
  (v_4.a).bind fun p_7 =>
  if (0 : Int) ≤ a8 ∧ a8 < ((v_4.len : Nat) : Int) then ((stC (p_7.add ((Int.toNat a8) * 1)) (.int .u8 (bits .xor .u8 v_6 v_2)) w).bind fun w_8 =>
  rec b0 a6 a7 (IntKind.i64.wrap (a8 + 1)) w_8) else none) else none) else none) else (some ((), w))
noncomputable def shred_blender_mix_l0 (K : Nat) (n : Nat) : Option Addr → Sl → Int → Int → World → Option ((Unit) × World) := iter (fun _ _ _ _ _ => none) (shred_blender_mix_l0_b K) n
/-- (*coffer/shred.blender).mix -/
noncomputable def shred_blender_mix (K : Nat) (b0 : Option Addr) (stripe1 : Sl) (w : World) : Option ((Unit) × World) :=
  bnd (shred_blender_mix_l0 K K b0 stripe1 ((stripe1.len : Nat) : Int) 0 w) fun y_9 w_10 =>
  some ((), w_10)
theorem shred_blender_mix_l0_ok (K : Nat) (n : Nat) : StmtNOk prog [(0, .ptr), (6, .sl), (7, .int .i64), (8, .int .i64)] [] [(4, 6), (8, 25)] ((fun n x w => shred_blender_mix_l0 K n x.1 x.2.1 x.2.2.1 x.2.2.2.1 w) n) (.block 0 (.loop (cd (bodyOf f22) [1, 0, 0]))) :=
    mk_loopN (O := tabL []) (root := (bodyOf f22)) (π := [1, 0, 0]) (id := 0) (Li := [(0, .ptr), (6, .sl), (7, .int .i64), (8, .int .i64)]) (Lo := []) (S := (fun n x w => shred_blender_mix_l0 K n x.1 x.2.1 x.2.2.1 x.2.2.2.1 w)) (body := cd (bodyOf f22) [1, 0, 0]) (shred_blender_mix_Eok K) (shred_blender_mix_Rok K) rfl (Orc.nil _ _ _) (by kernel_rfl) (fun _ _ => by kernel_rfl) (fun _ _ _ => by kernel_rfl) n
noncomputable def shred_blender_mix_l0_se (K : Nat) : SE := stmtN [(0, .ptr), (6, .sl), (7, .int .i64), (8, .int .i64)] [] [(4, 6), (8, 25)] (fun x w => shred_blender_mix_l0 K K x.1 x.2.1 x.2.2.1 x.2.2.2.1 w)
theorem shred_blender_mix_l0_se_ok (K : Nat) (R : Rg) (h : subRB [(4, 6), (8, 25)] R = true) : (shred_blender_mix_l0_se K).Ok prog R (.block 0 (.loop (cd (bodyOf f22) [1, 0, 0]))) := stmtN_ok (Li := [(0, .ptr), (6, .sl), (7, .int .i64), (8, .int .i64)]) (Lo := []) (S := (fun x w => shred_blender_mix_l0 K K x.1 x.2.1 x.2.2.1 x.2.2.2.1 w)) (shred_blender_mix_l0_ok K K) (subR_of h)
theorem shred_blender_mix_facts : FunFacts prog 22 f22 (bodyOf f22) [(0, .ptr), (1, .sl)] [(0, 25)] := ⟨func22, by kernel_rfl, by kernel_rfl, by kernel_rfl, by kernel_rfl, by kernel_rfl⟩
theorem shred_blender_mix_calls (K : Nat) (x : TT [(0, .ptr), (1, .sl)]) (w : World) (y : TR []) (w2 : World) (h : shred_blender_mix K x.1 x.2.1 w = some (y, w2)) : Calls prog 22 (encA [(0, .ptr), (1, .sl)] x).toArray w (fun e w3 => e = .returned (resV (encR [] y)) ∧ w3 = w2) :=
    mk_fun (O := tabL [([1], shred_blender_mix_l0_se K)]) (Lp := [(0, .ptr), (1, .sl)]) (Rt := []) (S := (fun x w => shred_blender_mix K x.1 x.2.1 w)) (shred_blender_mix_Eok K) (shred_blender_mix_Rok K) rfl shred_blender_mix_facts (Orc.cons (by kernel_rfl) (shred_blender_mix_l0_se_ok K [(0, 25)] (by kernel_rfl)) (Orc.nil _ _ _)) (fun _ _ => by kernel_rfl) x w y w2 h
noncomputable def shred_blender_mix_ce (K : Nat) : CE := funE [(0, .ptr), (1, .sl)] [] (fun x w => shred_blender_mix K x.1 x.2.1 w)
theorem shred_blender_mix_ok (K : Nat) : (shred_blender_mix_ce K).Ok prog 22 := funE_ok (Rt := []) (S := (fun x w => shred_blender_mix K x.1 x.2.1 w)) shred_blender_mix_facts fun x w y w2 h => shred_blender_mix_calls K x w y w2 h

noncomputable def shred_pieces_E : List (Nat × CE) := []
theorem shred_pieces_Eok : Env.Ok prog (tab (shred_pieces_E)) := (Env.nil _)
noncomputable def shred_pieces_R : List (Nat × RE) := []
theorem shred_pieces_Rok : REnv.Ok prog (tab (shred_pieces_R)) := (REnv.nil _)
/-- coffer/shred.pieces -/
noncomputable def shred_pieces (block0 : Sl) (size1 : Int) (w : World) : Option ((Value × Unit) × World) :=
  bnd (newB #[(.slice block0.a block0.len block0.cap)] 22 w) fun p_1 w_2 =>
  bnd (newB #[(.int .i64 size1)] 3 w_2) fun p_3 w_4 =>
  some (((.func (.func 39) #[] #[(.pointer (some p_1)), (.pointer (some p_3))]), ()), w_4)
theorem shred_pieces_facts : FunFacts prog 33 f33 (bodyOf f33) [(0, .sl), (1, .int .i64)] [(0, 6)] := ⟨func33, by kernel_rfl, by kernel_rfl, by kernel_rfl, by kernel_rfl, by kernel_rfl⟩
theorem shred_pieces_calls (x : TT [(0, .sl), (1, .int .i64)]) (w : World) (y : TR [.val]) (w2 : World) (h : shred_pieces x.1 x.2.1 w = some (y, w2)) : Calls prog 33 (encA [(0, .sl), (1, .int .i64)] x).toArray w (fun e w3 => e = .returned (resV (encR [.val] y)) ∧ w3 = w2) :=
    mk_fun (O := tabL []) (Lp := [(0, .sl), (1, .int .i64)]) (Rt := [.val]) (S := (fun x w => shred_pieces x.1 x.2.1 w)) (shred_pieces_Eok) (shred_pieces_Rok) rfl shred_pieces_facts (Orc.nil _ _ _) (fun _ _ => by kernel_rfl) x w y w2 h
noncomputable def shred_pieces_ce : CE := funE [(0, .sl), (1, .int .i64)] [.val] (fun x w => shred_pieces x.1 x.2.1 w)
theorem shred_pieces_ok : (shred_pieces_ce).Ok prog 33 := funE_ok (Rt := [.val]) (S := (fun x w => shred_pieces x.1 x.2.1 w)) shred_pieces_facts fun x w y w2 h => shred_pieces_calls x w y w2 h

noncomputable def digest_first_E (K : Nat) : List (Nat × CE) := []
theorem digest_first_Eok (K : Nat) : Env.Ok prog (tab (digest_first_E K)) := (Env.nil _)
noncomputable def digest_first_R (K : Nat) : List (Nat × RE) := []
theorem digest_first_Rok (K : Nat) : REnv.Ok prog (tab (digest_first_R K)) := (REnv.nil _)
noncomputable def digest_first_l0_b (K : Nat) (rec : Int → Addr → Int → World → Option ((Unit) × World)) (hash0 : Int) (out2 : Addr) (a4 : Int) (w : World) : Option ((Unit) × World) :=
  if (decide (a4 < 8)) = true then (if (hash0 == 224) = true then (if (0 : Int) ≤ (IntKind.i64.wrap (8 + a4)) ∧ (IntKind.i64.wrap (8 + a4)) < ((16 : Nat) : Int) then ((ldI .u64 ((⟨3, 0, none⟩ : Addr).add ((Int.toNat (IntKind.i64.wrap (8 + a4))) * 1)) w).bind fun v_3 =>
  if (0 : Int) ≤ a4 ∧ a4 < ((8 : Nat) : Int) then ((stC (out2.add ((Int.toNat a4) * 1)) (.int .u64 (bits .and .u64 v_3 4294967295)) w).bind fun w_4 =>
  rec hash0 out2 (IntKind.i64.wrap (a4 + 1)) w_4) else none) else none) else (if (hash0 == 256) = true then (if (0 : Int) ≤ a4 ∧ a4 < ((16 : Nat) : Int) then ((ldI .u64 ((⟨3, 0, none⟩ : Addr).add ((Int.toNat a4) * 1)) w).bind fun v_5 =>
  if (0 : Int) ≤ a4 ∧ a4 < ((8 : Nat) : Int) then ((stC (out2.add ((Int.toNat a4) * 1)) (.int .u64 (Int.fdiv v_5 (2 ^ 32))) w).bind fun w_6 =>
  rec hash0 out2 (IntKind.i64.wrap (a4 + 1)) w_6) else none) else none) else (if (hash0 == 384) = true then (if (0 : Int) ≤ (IntKind.i64.wrap (8 + a4)) ∧ (IntKind.i64.wrap (8 + a4)) < ((16 : Nat) : Int) then ((ldI .u64 ((⟨3, 0, none⟩ : Addr).add ((Int.toNat (IntKind.i64.wrap (8 + a4))) * 1)) w).bind fun v_7 =>
  if (0 : Int) ≤ a4 ∧ a4 < ((8 : Nat) : Int) then ((stC (out2.add ((Int.toNat a4) * 1)) (.int .u64 v_7) w).bind fun w_8 =>
  rec hash0 out2 (IntKind.i64.wrap (a4 + 1)) w_8) else none) else none) else (if (hash0 == 512) = true then (if (0 : Int) ≤ a4 ∧ a4 < ((16 : Nat) : Int) then ((ldI .u64 ((⟨3, 0, none⟩ : Addr).add ((Int.toNat a4) * 1)) w).bind fun v_9 =>
  if (0 : Int) ≤ a4 ∧ a4 < ((8 : Nat) : Int) then ((stC (out2.add ((Int.toNat a4) * 1)) (.int .u64 v_9) w).bind fun w_10 =>
  rec hash0 out2 (IntKind.i64.wrap (a4 + 1)) w_10) else none) else none) else (rec hash0 out2 (IntKind.i64.wrap (a4 + 1)) w))))) else (some ((), w))
noncomputable def digest_first_l0 (K : Nat) (n : Nat) : Int → Addr → Int → World → Option ((Unit) × World) := iter (fun _ _ _ _ => none) (digest_first_l0_b K) n
/-- coffer/digest.first -/
noncomputable def digest_first (K : Nat) (hash0 : Int) (w : World) : Option (((Array Value) × Unit) × World) :=
  bnd (newB z75 75 w) fun out_1 w_2 =>
  bnd (digest_first_l0 K K hash0 out_1 0 w_2) fun y_11 w_12 =>
  (ldA 8 out_1 w_12).bind fun v_13 =>
  if (v_13).size = 8 then ((stA out_1 v_13 w_12).bind fun w_14 =>
  (ldA 8 out_1 w_14).bind fun res_15 =>
  some ((res_15, ()), w_14)) else none
theorem digest_first_l0_ok (K : Nat) (n : Nat) : StmtNOk prog [(0, .int .i64), (2, .addr), (4, .int .i64)] [] [(3, 41)] ((fun n x w => digest_first_l0 K n x.1 x.2.1 x.2.2.1 w) n) (.block 0 (.loop (cd (bodyOf f55) [1, 0, 1, 0, 0]))) :=
    mk_loopN (O := tabL []) (root := (bodyOf f55)) (π := [1, 0, 1, 0, 0]) (id := 0) (Li := [(0, .int .i64), (2, .addr), (4, .int .i64)]) (Lo := []) (S := (fun n x w => digest_first_l0 K n x.1 x.2.1 x.2.2.1 w)) (body := cd (bodyOf f55) [1, 0, 1, 0, 0]) (digest_first_Eok K) (digest_first_Rok K) rfl (Orc.nil _ _ _) (by kernel_rfl) (fun _ _ => by kernel_rfl) (fun _ _ _ => by kernel_rfl) n
noncomputable def digest_first_l0_se (K : Nat) : SE := stmtN [(0, .int .i64), (2, .addr), (4, .int .i64)] [] [(3, 41)] (fun x w => digest_first_l0 K K x.1 x.2.1 x.2.2.1 w)
theorem digest_first_l0_se_ok (K : Nat) (R : Rg) (h : subRB [(3, 41)] R = true) : (digest_first_l0_se K).Ok prog R (.block 0 (.loop (cd (bodyOf f55) [1, 0, 1, 0, 0]))) := stmtN_ok (Li := [(0, .int .i64), (2, .addr), (4, .int .i64)]) (Lo := []) (S := (fun x w => digest_first_l0 K K x.1 x.2.1 x.2.2.1 w)) (digest_first_l0_ok K K) (subR_of h)
theorem digest_first_facts : FunFacts prog 55 f55 (bodyOf f55) [(0, .int .i64)] [(0, 42)] := ⟨func55, by kernel_rfl, by kernel_rfl, by kernel_rfl, by kernel_rfl, by kernel_rfl⟩
theorem digest_first_calls (K : Nat) (x : TT [(0, .int .i64)]) (w : World) (y : TR [.agg]) (w2 : World) (h : digest_first K x.1 w = some (y, w2)) : Calls prog 55 (encA [(0, .int .i64)] x).toArray w (fun e w3 => e = .returned (resV (encR [.agg] y)) ∧ w3 = w2) :=
    mk_fun (O := tabL [([1, 0, 1], digest_first_l0_se K)]) (Lp := [(0, .int .i64)]) (Rt := [.agg]) (S := (fun x w => digest_first K x.1 w)) (digest_first_Eok K) (digest_first_Rok K) rfl digest_first_facts (Orc.cons (by kernel_rfl) (digest_first_l0_se_ok K [(0, 42)] (by kernel_rfl)) (Orc.nil _ _ _)) (fun _ _ => by kernel_rfl) x w y w2 h
noncomputable def digest_first_ce (K : Nat) : CE := funE [(0, .int .i64)] [.agg] (fun x w => digest_first K x.1 w)
theorem digest_first_ok (K : Nat) : (digest_first_ce K).Ok prog 55 := funE_ok (Rt := [.agg]) (S := (fun x w => digest_first K x.1 w)) digest_first_facts fun x w y w2 h => digest_first_calls K x w y w2 h

noncomputable def digest_begin_E (K : Nat) : List (Nat × CE) := [(32, digest_kindOf_ce), (55, digest_first_ce K)]
theorem digest_begin_Eok (K : Nat) : Env.Ok prog (tab (digest_begin_E K)) := (Env.cons (digest_kindOf_ok) (Env.cons (digest_first_ok K) (Env.nil _)))
noncomputable def digest_begin_R (K : Nat) : List (Nat × RE) := []
theorem digest_begin_Rok (K : Nat) : REnv.Ok prog (tab (digest_begin_R K)) := (REnv.nil _)
/-- coffer/digest.begin -/
noncomputable def digest_begin (K : Nat) (hash0 : Int) (w : World) : Option (((Array Value) × Bool × Unit) × World) :=
  bnd (newB z87 87 w) fun p_1 w_2 =>
  bnd (digest_kindOf hash0 w_2) fun r_3 w_4 =>
  bnd (newB z56 56 w_4) fun k_5 w_6 =>
  if (r_3.1).size = 4 then ((stA k_5 r_3.1 w_6).bind fun w_7 =>
  (ldA 4 k_5 w_7.drew).bind fun v_8 =>
  bnd (digest_first K hash0 w_7.drew) fun r_9 w_10 =>
  (ldA 4 k_5 w_10).bind fun v_11 =>
  sameK (.agg v_8) (.agg v_11) ((prog.built 87 [(0, (.agg v_8)), (1, (.int .i64 hash0)), (3, (.agg r_9.1))]).bind fun cs_12 =>
  if (cs_12).size = 142 then ((stA p_1 cs_12 w_10).bind fun w_13 =>
  (ldA 142 p_1 w_13).bind fun res_14 =>
  some ((res_14, r_3.2.1, ()), w_13)) else none)) else none
theorem digest_begin_facts : FunFacts prog 50 f50 (bodyOf f50) [(0, .int .i64)] [(0, 17)] := ⟨func50, by kernel_rfl, by kernel_rfl, by kernel_rfl, by kernel_rfl, by kernel_rfl⟩
theorem digest_begin_calls (K : Nat) (x : TT [(0, .int .i64)]) (w : World) (y : TR [.agg, .bool]) (w2 : World) (h : digest_begin K x.1 w = some (y, w2)) : Calls prog 50 (encA [(0, .int .i64)] x).toArray w (fun e w3 => e = .returned (resV (encR [.agg, .bool] y)) ∧ w3 = w2) :=
    mk_fun (O := tabL []) (Lp := [(0, .int .i64)]) (Rt := [.agg, .bool]) (S := (fun x w => digest_begin K x.1 w)) (digest_begin_Eok K) (digest_begin_Rok K) rfl digest_begin_facts (Orc.nil _ _ _) (fun _ _ => by kernel_rfl) x w y w2 h
noncomputable def digest_begin_ce (K : Nat) : CE := funE [(0, .int .i64)] [.agg, .bool] (fun x w => digest_begin K x.1 w)
theorem digest_begin_ok (K : Nat) : (digest_begin_ce K).Ok prog 50 := funE_ok (Rt := [.agg, .bool]) (S := (fun x w => digest_begin K x.1 w)) digest_begin_facts fun x w y w2 h => digest_begin_calls K x w y w2 h

noncomputable def digest_New_E (K : Nat) : List (Nat × CE) := [(50, digest_begin_ce K)]
theorem digest_New_Eok (K : Nat) : Env.Ok prog (tab (digest_New_E K)) := (Env.cons (digest_begin_ok K) (Env.nil _))
noncomputable def digest_New_R (K : Nat) : List (Nat × RE) := []
theorem digest_New_Rok (K : Nat) : REnv.Ok prog (tab (digest_New_R K)) := (REnv.nil _)
/-- coffer/digest.New -/
noncomputable def digest_New (K : Nat) (hash0 : Int) (w : World) : Option (((Option Addr) × Int × Unit) × World) :=
  bnd (digest_begin K hash0 w) fun r_1 w_2 =>
  bnd (newB z87 87 w_2) fun s_3 w_4 =>
  if (r_1.1).size = 142 then ((stA s_3 r_1.1 w_4).bind fun w_5 =>
  if (!r_1.2.1) = true then (some ((none, 10, ()), w_5)) else ((ldA 142 s_3 w_5).bind fun v_6 =>
  (prog.built 91 [(0, (.agg v_6))]).bind fun cs_7 =>
  bnd (newB cs_7 91 w_5) fun p_8 w_9 =>
  some (((some p_8), 0, ()), w_9))) else none
theorem digest_New_facts : FunFacts prog 40 f40 (bodyOf f40) [(0, .int .i64)] [(0, 16)] := ⟨func40, by kernel_rfl, by kernel_rfl, by kernel_rfl, by kernel_rfl, by kernel_rfl⟩
theorem digest_New_calls (K : Nat) (x : TT [(0, .int .i64)]) (w : World) (y : TR [.ptr, .int .i64]) (w2 : World) (h : digest_New K x.1 w = some (y, w2)) : Calls prog 40 (encA [(0, .int .i64)] x).toArray w (fun e w3 => e = .returned (resV (encR [.ptr, .int .i64] y)) ∧ w3 = w2) :=
    mk_fun (O := tabL []) (Lp := [(0, .int .i64)]) (Rt := [.ptr, .int .i64]) (S := (fun x w => digest_New K x.1 w)) (digest_New_Eok K) (digest_New_Rok K) rfl digest_New_facts (Orc.nil _ _ _) (fun _ _ => by kernel_rfl) x w y w2 h
noncomputable def digest_New_ce (K : Nat) : CE := funE [(0, .int .i64)] [.ptr, .int .i64] (fun x w => digest_New K x.1 w)
theorem digest_New_ok (K : Nat) : (digest_New_ce K).Ok prog 40 := funE_ok (Rt := [.ptr, .int .i64]) (S := (fun x w => digest_New K x.1 w)) digest_New_facts fun x w y w2 h => digest_New_calls K x w y w2 h

noncomputable def digest_total_R (K : Nat) : List (Nat × RE) := []
theorem digest_total_Rok (K : Nat) : REnv.Ok prog (tab (digest_total_R K)) := (REnv.nil _)
noncomputable def digest_total_l0_b (K : Nat) (w : World) (rec : Int → Sl → Int → Int → Option (Out (Int × Unit) (Int × Unit))) (n3 : Int) (a6 : Sl) (a7 : Int) (a8 : Int) : Option (Out (Int × Unit) (Int × Unit)) :=
  if (decide (a8 < a7)) = true then ((a6.a).bind fun p_1 =>
  if (0 : Int) ≤ a8 ∧ a8 < ((a6.len : Nat) : Int) then ((ldS (p_1.add ((Int.toNat a8) * 1)) w).bind fun v_2 =>
  if (decide ((IntKind.i64.wrap (n3 + ((v_2.len : Nat) : Int))) > 33554432)) = true then (some (.norm ((IntKind.i64.wrap (n3 + ((v_2.len : Nat) : Int))), ()))) else (rec (IntKind.i64.wrap (n3 + ((v_2.len : Nat) : Int))) a6 a7 (IntKind.i64.wrap (a8 + 1)))) else none) else (some (.norm (n3, ())))
noncomputable def digest_total_l0 (K : Nat) (n : Nat) (n3 : Int) (a6 : Sl) (a7 : Int) (a8 : Int) (w : World) : Option (Out (Int × Unit) (Int × Unit)) := iter (α := Int → Sl → Int → Int → Option (Out (Int × Unit) (Int × Unit))) (fun _ _ _ _ => none) (digest_total_l0_b K w) n n3 a6 a7 a8
/-- coffer/digest.total -/
noncomputable def digest_total (K : Nat) (parts0 : Sl) (w : World) : Option (Int × Unit) :=
  (digest_total_l0 K K 0 parts0 ((parts0.len : Nat) : Int) 0 w).bind fun y_3 =>
  (match y_3 with
  | .norm z_4n => (some (z_4n.1, ()))
  | .ret z_4r => (some (z_4r.1, ())))
theorem digest_total_l0_ok (K : Nat) (n : Nat) : StmtQOk prog [(3, .int .i64), (6, .sl), (7, .int .i64), (8, .int .i64)] [(3, .int .i64)] [(2, .int .i64)] [(3, 4), (5, 6), (8, 19)] ((fun n x w => digest_total_l0 K n x.1 x.2.1 x.2.2.1 x.2.2.2.1 w) n) (.block 0 (.loop (cd (bodyOf f51) [1, 1, 0, 1, 0, 0]))) :=
    mk_loopQ (O := tabL []) (root := (bodyOf f51)) (π := [1, 1, 0, 1, 0, 0]) (id := 0) (Li := [(3, .int .i64), (6, .sl), (7, .int .i64), (8, .int .i64)]) (Lo := [(3, .int .i64)]) (Lr := [(2, .int .i64)]) (S := (fun n x w => digest_total_l0 K n x.1 x.2.1 x.2.2.1 x.2.2.2.1 w)) (body := cd (bodyOf f51) [1, 1, 0, 1, 0, 0]) (digest_total_Rok K) (OrcQ.nil _ _ _) (by kernel_rfl) (fun _ _ => by kernel_rfl) (fun _ _ _ => by kernel_rfl) n
noncomputable def digest_total_l0_se (K : Nat) : SQ := stmtQ [(3, .int .i64), (6, .sl), (7, .int .i64), (8, .int .i64)] [(3, .int .i64)] [(2, .int .i64)] [(3, 4), (5, 6), (8, 19)] (fun x w => digest_total_l0 K K x.1 x.2.1 x.2.2.1 x.2.2.2.1 w)
theorem digest_total_l0_se_ok (K : Nat) (R : Rg) (h : subRB [(3, 4), (5, 6), (8, 19)] R = true) : (digest_total_l0_se K).Ok prog R (.block 0 (.loop (cd (bodyOf f51) [1, 1, 0, 1, 0, 0]))) := stmtQ_ok (Li := [(3, .int .i64), (6, .sl), (7, .int .i64), (8, .int .i64)]) (Lo := [(3, .int .i64)]) (Lr := [(2, .int .i64)]) (S := (fun x w => digest_total_l0 K K x.1 x.2.1 x.2.2.1 x.2.2.2.1 w)) (digest_total_l0_ok K K) (subR_of h)
theorem digest_total_facts : FunFacts prog 51 f51 (bodyOf f51) [(0, .sl)] [(0, 20)] := ⟨func51, by kernel_rfl, by kernel_rfl, by kernel_rfl, by kernel_rfl, by kernel_rfl⟩
theorem digest_total_calls (K : Nat) (x : TT [(0, .sl)]) (w : World) (y : TR [.int .i64]) (h : digest_total K x.1 w = some y) : Calls prog 51 (encA [(0, .sl)] x).toArray w (fun e w3 => e = .returned (resV (encR [.int .i64] y)) ∧ w3 = w) :=
    mk_funQ (O := tabL [([1, 1, 0, 1], digest_total_l0_se K)]) (Lp := [(0, .sl)]) (Rt := [.int .i64]) (S := (fun x w => digest_total K x.1 w)) (digest_total_Rok K) digest_total_facts (OrcQ.cons (by kernel_rfl) (digest_total_l0_se_ok K [(0, 20)] (by kernel_rfl)) (OrcQ.nil _ _ _)) (fun _ _ => by kernel_rfl) x w y h
noncomputable def digest_total_re (K : Nat) : RE := funR [(0, .sl)] [.int .i64] (fun x w => digest_total K x.1 w)
theorem digest_total_ok (K : Nat) : (digest_total_re K).Ok prog 51 := funR_ok (Rt := [.int .i64]) (S := (fun x w => digest_total K x.1 w)) digest_total_facts fun x w y h => digest_total_calls K x w y h

noncomputable def bits_RotateLeft64_R : List (Nat × RE) := []
theorem bits_RotateLeft64_Rok : REnv.Ok prog (tab (bits_RotateLeft64_R)) := (REnv.nil _)
/-- math/bits.RotateLeft64 -/
noncomputable def bits_RotateLeft64 (x0 : Int) (k1 : Int) : Option (Int × Unit) :=
  if (0 : Int) ≤ (bits .and .u64 (IntKind.u64.wrap k1) 63) then (if (0 : Int) ≤ (IntKind.u64.wrap (64 - (bits .and .u64 (IntKind.u64.wrap k1) 63))) then (some ((bits .or .u64 (IntKind.u64.wrap (x0 * 2 ^ (min (Int.toNat (bits .and .u64 (IntKind.u64.wrap k1) 63)) IntKind.u64.bits))) (Int.fdiv x0 (2 ^ (min (Int.toNat (IntKind.u64.wrap (64 - (bits .and .u64 (IntKind.u64.wrap k1) 63)))) IntKind.u64.bits)))), ())) else none) else none
theorem bits_RotateLeft64_facts : FunFacts prog 49 f49 (bodyOf f49) [(0, .int .u64), (1, .int .i64)] [(0, 17)] := ⟨func49, by kernel_rfl, by kernel_rfl, by kernel_rfl, by kernel_rfl, by kernel_rfl⟩
theorem bits_RotateLeft64_calls (x : TT [(0, .int .u64), (1, .int .i64)]) (w : World) (y : TR [.int .u64]) (h : bits_RotateLeft64 x.1 x.2.1 = some y) : Calls prog 49 (encA [(0, .int .u64), (1, .int .i64)] x).toArray w (fun e w3 => e = .returned (resV (encR [.int .u64] y)) ∧ w3 = w) :=
    mk_funQ (O := tabL []) (Lp := [(0, .int .u64), (1, .int .i64)]) (Rt := [.int .u64]) (S := (fun x w => bits_RotateLeft64 x.1 x.2.1)) (bits_RotateLeft64_Rok) bits_RotateLeft64_facts (OrcQ.nil _ _ _) (fun _ _ => by kernel_rfl) x w y h
noncomputable def bits_RotateLeft64_re : RE := funR [(0, .int .u64), (1, .int .i64)] [.int .u64] (fun x w => bits_RotateLeft64 x.1 x.2.1)
theorem bits_RotateLeft64_ok : (bits_RotateLeft64_re).Ok prog 49 := funR_ok (Rt := [.int .u64]) (S := (fun x w => bits_RotateLeft64 x.1 x.2.1)) bits_RotateLeft64_facts fun x w y h => bits_RotateLeft64_calls x w y h

end Go.Sh

/- What functions of the program do, as Lean functions; that the machine does just that. Printed by shal.py, a program of this claim's writer. -/
set_option maxRecDepth 100000
set_option linter.unusedVariables false
namespace Go.Sh
open Go.Fw Go.Proofs.Tryd

noncomputable def digest_wide_E (K : Nat) : List (Nat × CE) := []
theorem digest_wide_Eok (K : Nat) : Env.Ok prog (tab (digest_wide_E K)) := (Env.nil _)
noncomputable def digest_wide_R (K : Nat) : List (Nat × RE) := [(49, bits_RotateLeft64_re)]
theorem digest_wide_Rok (K : Nat) : REnv.Ok prog (tab (digest_wide_R K)) := (REnv.cons (bits_RotateLeft64_ok) (REnv.nil _))
noncomputable def digest_wide_l2_b (K : Nat) (rec : Option Addr → Sl → Addr → Int → Int → Sl → Int → Int → World → Option ((Unit) × World)) (h0 : Option Addr) (b1 : Sl) (w4 : Addr) (i5 : Int) (a30 : Int) (a39 : Sl) (a40 : Int) (a41 : Int) (w : World) : Option ((Unit) × World) :=
  if (decide (a41 < a40)) = true then ((a39.a).bind fun p_3 =>
  if (0 : Int) ≤ a41 ∧ a41 < ((a39.len : Nat) : Int) then ((ldI .u8 (p_3.add ((Int.toNat a41) * 1)) w).bind fun v_4 =>
  if (0 : Int) ≤ i5 ∧ i5 < ((80 : Nat) : Int) then ((ldI .u64 (w4.add ((Int.toNat i5) * 1)) w).bind fun v_5 =>
  if (0 : Int) ≤ i5 ∧ i5 < ((80 : Nat) : Int) then ((stC (w4.add ((Int.toNat i5) * 1)) (.int .u64 (bits .or .u64 (IntKind.u64.wrap (v_5 * 2 ^ 8)) (IntKind.u64.wrap v_4))) w).bind fun w_6 =>
  rec h0 b1 w4 i5 a30 a39 a40 (IntKind.i64.wrap (a41 + 1)) w_6) else none) else none) else none) else (some ((), w))
noncomputable def digest_wide_l2 (K : Nat) (n : Nat) : Option Addr → Sl → Addr → Int → Int → Sl → Int → Int → World → Option ((Unit) × World) := iter (fun _ _ _ _ _ _ _ _ _ => none) (digest_wide_l2_b K) n
noncomputable def digest_wide_l1_b (K : Nat) (rec : Option Addr → Sl → Addr → Int → World → Option ((Unit) × World)) (h0 : Option Addr) (b1 : Sl) (w4 : Addr) (a30 : Int) (w : World) : Option ((Unit) × World) :=
  if (decide (a30 < 16)) = true then (if (0 : Int) ≤ (IntKind.i64.wrap ((IntKind.i64.wrap (8 * a30)) + 8)) ∧ (IntKind.i64.wrap ((IntKind.i64.wrap (8 * a30)) + 8)) ≤ ((b1.cap : Nat) : Int) then (if (0 : Int) ≤ (IntKind.i64.wrap (8 * a30)) ∧ (IntKind.i64.wrap (8 * a30)) ≤ (((Int.toNat ((IntKind.i64.wrap ((IntKind.i64.wrap (8 * a30)) + 8)))) : Nat) : Int) then (bnd (digest_wide_l2 K K h0 b1 w4 a30 a30 ⟨(sla b1.a (Int.toNat ((IntKind.i64.wrap (8 * a30)))) b1.cap 1), ((Int.toNat ((IntKind.i64.wrap ((IntKind.i64.wrap (8 * a30)) + 8)))) - (Int.toNat ((IntKind.i64.wrap (8 * a30))))), (b1.cap - (Int.toNat ((IntKind.i64.wrap (8 * a30)))))⟩ ((((Int.toNat ((IntKind.i64.wrap ((IntKind.i64.wrap (8 * a30)) + 8)))) - (Int.toNat ((IntKind.i64.wrap (8 * a30))))) : Nat) : Int) 0 w) fun y_7 w_8 =>
  rec h0 b1 w4 (IntKind.i64.wrap (a30 + 1)) w_8) else none) else none) else (some ((), w))
noncomputable def digest_wide_l1 (K : Nat) (n : Nat) : Option Addr → Sl → Addr → Int → World → Option ((Unit) × World) := iter (fun _ _ _ _ _ => none) (digest_wide_l1_b K) n
noncomputable def digest_wide_l3_b (K : Nat) (rec : Option Addr → Sl → Addr → Int → World → Option ((Unit) × World)) (h0 : Option Addr) (b1 : Sl) (w4 : Addr) (i8 : Int) (w : World) : Option ((Unit) × World) :=
  if (decide (i8 < 80)) = true then (if (0 : Int) ≤ (IntKind.i64.wrap (i8 - 15)) ∧ (IntKind.i64.wrap (i8 - 15)) < ((80 : Nat) : Int) then (if (0 : Int) ≤ (IntKind.i64.wrap (i8 - 2)) ∧ (IntKind.i64.wrap (i8 - 2)) < ((80 : Nat) : Int) then ((ldI .u64 (w4.add ((Int.toNat (IntKind.i64.wrap (i8 - 15))) * 1)) w.drew).bind fun v_11 =>
  (ldI .u64 (w4.add ((Int.toNat (IntKind.i64.wrap (i8 - 2))) * 1)) w.drew).bind fun v_12 =>
  if (0 : Int) ≤ (IntKind.i64.wrap (i8 - 16)) ∧ (IntKind.i64.wrap (i8 - 16)) < ((80 : Nat) : Int) then (if (0 : Int) ≤ (IntKind.i64.wrap (i8 - 7)) ∧ (IntKind.i64.wrap (i8 - 7)) < ((80 : Nat) : Int) then ((ldI .u64 (w4.add ((Int.toNat (IntKind.i64.wrap (i8 - 16))) * 1)) w.drew.drew).bind fun v_13 =>
  (ldI .u64 (w4.add ((Int.toNat (IntKind.i64.wrap (i8 - 7))) * 1)) w.drew.drew).bind fun v_14 =>
  (bits_RotateLeft64 v_11 (-1)).bind fun r_15 =>
  (bits_RotateLeft64 v_11 (-8)).bind fun r_16 =>
  (bits_RotateLeft64 v_12 (-19)).bind fun r_17 =>
  (bits_RotateLeft64 v_12 (-61)).bind fun r_18 =>
  if (0 : Int) ≤ i8 ∧ i8 < ((80 : Nat) : Int) then ((stC (w4.add ((Int.toNat i8) * 1)) (.int .u64 (IntKind.u64.wrap ((IntKind.u64.wrap ((IntKind.u64.wrap (v_13 + v_14)) + (bits .xor .u64 (bits .xor .u64 r_15.1 r_16.1) (Int.fdiv v_11 (2 ^ 7))))) + (bits .xor .u64 (bits .xor .u64 r_17.1 r_18.1) (Int.fdiv v_12 (2 ^ 6)))))) w.drew.drew).bind fun w_19 =>
  rec h0 b1 w4 (IntKind.i64.wrap (i8 + 1)) w_19) else none) else none) else none) else none) else none) else (some ((), w))
noncomputable def digest_wide_l3 (K : Nat) (n : Nat) : Option Addr → Sl → Addr → Int → World → Option ((Unit) × World) := iter (fun _ _ _ _ _ => none) (digest_wide_l3_b K) n
noncomputable def digest_wide_l4_b (K : Nat) (rec : Option Addr → Sl → Addr → Int → Int → Int → Int → Int → Int → Int → Int → Array Value → Int → World → Option ((Int × Int × Int × Int × Int × Int × Int × Int × Unit) × World)) (h0 : Option Addr) (b1 : Sl) (w4 : Addr) (a11 : Int) (b112 : Int) (c13 : Int) (d14 : Int) (e15 : Int) (f16 : Int) (g17 : Int) (k18 : Int) (a129 : Array Value) (a130 : Int) (w : World) : Option ((Int × Int × Int × Int × Int × Int × Int × Int × Unit) × World) :=
  if (decide (a130 < 80)) = true then (if (0 : Int) ≤ a130 ∧ a130 < ((80 : Nat) : Int) then ((a129[((Int.toNat a130) * 1)]?).bind fun v_39 =>
  (asI .u64 v_39).bind fun v_40 =>
  if (0 : Int) ≤ a130 ∧ a130 < ((80 : Nat) : Int) then ((bits_RotateLeft64 e15 (-14)).bind fun r_41 =>
  (bits_RotateLeft64 e15 (-18)).bind fun r_42 =>
  (bits_RotateLeft64 e15 (-41)).bind fun r_43 =>
  (ldI .u64 (w4.add ((Int.toNat a130) * 1)) w.drew).bind fun v_44 =>
  (bits_RotateLeft64 a11 (-28)).bind fun r_45 =>
  (bits_RotateLeft64 a11 (-34)).bind fun r_46 =>
  (bits_RotateLeft64 a11 (-39)).bind fun r_47 =>
  rec h0 b1 w4 (IntKind.u64.wrap ((IntKind.u64.wrap ((IntKind.u64.wrap ((IntKind.u64.wrap ((IntKind.u64.wrap (k18 + (bits .xor .u64 (bits .xor .u64 r_41.1 r_42.1) r_43.1))) + (bits .xor .u64 (bits .and .u64 e15 f16) (bits .and .u64 (bits .xor .u64 IntKind.u64.max e15) g17)))) + v_40)) + v_44)) + (IntKind.u64.wrap ((bits .xor .u64 (bits .xor .u64 r_45.1 r_46.1) r_47.1) + (bits .xor .u64 (bits .xor .u64 (bits .and .u64 a11 b112) (bits .and .u64 a11 c13)) (bits .and .u64 b112 c13)))))) a11 b112 c13 (IntKind.u64.wrap (d14 + (IntKind.u64.wrap ((IntKind.u64.wrap ((IntKind.u64.wrap ((IntKind.u64.wrap (k18 + (bits .xor .u64 (bits .xor .u64 r_41.1 r_42.1) r_43.1))) + (bits .xor .u64 (bits .and .u64 e15 f16) (bits .and .u64 (bits .xor .u64 IntKind.u64.max e15) g17)))) + v_40)) + v_44)))) e15 f16 g17 a129 (IntKind.i64.wrap (a130 + 1)) w.drew) else none) else none) else (some ((a11, b112, c13, d14, e15, f16, g17, k18, ()), w))
noncomputable def digest_wide_l4 (K : Nat) (n : Nat) : Option Addr → Sl → Addr → Int → Int → Int → Int → Int → Int → Int → Int → Array Value → Int → World → Option ((Int × Int × Int × Int × Int × Int × Int × Int × Unit) × World) := iter (fun _ _ _ _ _ _ _ _ _ _ _ _ _ _ => none) (digest_wide_l4_b K) n
noncomputable def digest_wide_l5_b (K : Nat) (rec : Option Addr → Sl → Addr → Array Value → Int → World → Option ((Unit) × World)) (h0 : Option Addr) (b1 : Sl) (w4 : Addr) (a200 : Array Value) (a201 : Int) (w : World) : Option ((Unit) × World) :=
  if (decide (a201 < 8)) = true then (if (0 : Int) ≤ a201 ∧ a201 < ((8 : Nat) : Int) then ((a200[((Int.toNat a201) * 1)]?).bind fun v_51 =>
  (asI .u64 v_51).bind fun v_52 =>
  (h0).bind fun p_53 =>
  if (0 : Int) ≤ a201 ∧ a201 < ((8 : Nat) : Int) then ((h0).bind fun p_54 =>
  (ldI .u64 (p_53.add ((Int.toNat a201) * 1)) w.drew).bind fun v_55 =>
  if (0 : Int) ≤ a201 ∧ a201 < ((8 : Nat) : Int) then ((stC (p_54.add ((Int.toNat a201) * 1)) (.int .u64 (IntKind.u64.wrap (v_55 + v_52))) w.drew).bind fun w_56 =>
  rec h0 b1 w4 a200 (IntKind.i64.wrap (a201 + 1)) w_56) else none) else none) else none) else (some ((), w))
noncomputable def digest_wide_l5 (K : Nat) (n : Nat) : Option Addr → Sl → Addr → Array Value → Int → World → Option ((Unit) × World) := iter (fun _ _ _ _ _ _ => none) (digest_wide_l5_b K) n
noncomputable def digest_wide_l0_b (K : Nat) (rec : Option Addr → Sl → Addr → World → Option ((Unit) × World)) (h0 : Option Addr) (b1 : Sl) (w4 : Addr) (w : World) : Option ((Unit) × World) :=
  if (decide (((b1.len : Nat) : Int) ≥ 128)) = true then (bnd (digest_wide_l1 K K h0 b1 w4 0 w) fun y_9 w_10 =>
  bnd (digest_wide_l3 K K h0 b1 w4 16 w_10) fun y_20 w_21 =>
  (h0).bind fun p_22 =>
  (h0).bind fun p_23 =>
  (h0).bind fun p_24 =>
  (h0).bind fun p_25 =>
  (h0).bind fun p_26 =>
  (h0).bind fun p_27 =>
  (h0).bind fun p_28 =>
  (h0).bind fun p_29 =>
  (ldI .u64 (p_22.add (0 * 1)) w_21.drew).bind fun v_30 =>
  (ldI .u64 (p_23.add (1 * 1)) w_21.drew).bind fun v_31 =>
  (ldI .u64 (p_24.add (2 * 1)) w_21.drew).bind fun v_32 =>
  (ldI .u64 (p_25.add (3 * 1)) w_21.drew).bind fun v_33 =>
  (ldI .u64 (p_26.add (4 * 1)) w_21.drew).bind fun v_34 =>
  (ldI .u64 (p_27.add (5 * 1)) w_21.drew).bind fun v_35 =>
  (ldI .u64 (p_28.add (6 * 1)) w_21.drew).bind fun v_36 =>
  (ldI .u64 (p_29.add (7 * 1)) w_21.drew).bind fun v_37 =>
  (ldA 80 (⟨0, 0, none⟩ : Addr) w_21.drew).bind fun v_38 =>
  bnd (digest_wide_l4 K K h0 b1 w4 v_30 v_31 v_32 v_33 v_34 v_35 v_36 v_37 v_38 0 w_21.drew) fun y_48 w_49 =>
  (prog.built 75 [(0, (.int .u64 y_48.1)), (1, (.int .u64 y_48.2.1)), (2, (.int .u64 y_48.2.2.1)), (3, (.int .u64 y_48.2.2.2.1)), (4, (.int .u64 y_48.2.2.2.2.1)), (5, (.int .u64 y_48.2.2.2.2.2.1)), (6, (.int .u64 y_48.2.2.2.2.2.2.1)), (7, (.int .u64 y_48.2.2.2.2.2.2.2.1))]).bind fun cs_50 =>
  bnd (digest_wide_l5 K K h0 b1 w4 cs_50 0 w_49) fun y_57 w_58 =>
  if (0 : Int) ≤ 128 ∧ 128 ≤ ((b1.len : Nat) : Int) then (rec h0 ⟨(sla b1.a 128 b1.cap 1), (b1.len - 128), (b1.cap - 128)⟩ w4 w_58) else none) else (some ((), w))
noncomputable def digest_wide_l0 (K : Nat) (n : Nat) : Option Addr → Sl → Addr → World → Option ((Unit) × World) := iter (fun _ _ _ _ => none) (digest_wide_l0_b K) n
/-- coffer/digest.wide -/
noncomputable def digest_wide (K : Nat) (h0 : Option Addr) (b1 : Sl) (w : World) : Option ((Unit) × World) :=
  bnd (newB z83 83 w) fun w_1 w_2 =>
  bnd (digest_wide_l0 K K h0 b1 w_1 w_2) fun y_59 w_60 =>
  some ((), w_60)
theorem digest_wide_l2_ok (K : Nat) (n : Nat) : StmtNOk prog [(0, .ptr), (1, .sl), (4, .addr), (5, .int .i64), (30, .int .i64), (39, .sl), (40, .int .i64), (41, .int .i64)] [] [(7, 8), (41, 55)] ((fun n x w => digest_wide_l2 K n x.1 x.2.1 x.2.2.1 x.2.2.2.1 x.2.2.2.2.1 x.2.2.2.2.2.1 x.2.2.2.2.2.2.1 x.2.2.2.2.2.2.2.1 w) n) (.block 4 (.loop (cd (bodyOf f38) [1, 0, 0, 1, 0, 0, 0, 1, 0, 0, 1, 1, 0, 0, 1, 1, 0, 0]))) :=
    mk_loopN (O := tabL []) (root := (bodyOf f38)) (π := [1, 0, 0, 1, 0, 0, 0, 1, 0, 0, 1, 1, 0, 0, 1, 1, 0, 0]) (id := 4) (Li := [(0, .ptr), (1, .sl), (4, .addr), (5, .int .i64), (30, .int .i64), (39, .sl), (40, .int .i64), (41, .int .i64)]) (Lo := []) (S := (fun n x w => digest_wide_l2 K n x.1 x.2.1 x.2.2.1 x.2.2.2.1 x.2.2.2.2.1 x.2.2.2.2.2.1 x.2.2.2.2.2.2.1 x.2.2.2.2.2.2.2.1 w)) (body := cd (bodyOf f38) [1, 0, 0, 1, 0, 0, 0, 1, 0, 0, 1, 1, 0, 0, 1, 1, 0, 0]) (digest_wide_Eok K) (digest_wide_Rok K) rfl (Orc.nil _ _ _) (by kernel_rfl) (fun _ _ => by kernel_rfl) (fun _ _ _ => by kernel_rfl) n
noncomputable def digest_wide_l2_se (K : Nat) : SE := stmtN [(0, .ptr), (1, .sl), (4, .addr), (5, .int .i64), (30, .int .i64), (39, .sl), (40, .int .i64), (41, .int .i64)] [] [(7, 8), (41, 55)] (fun x w => digest_wide_l2 K K x.1 x.2.1 x.2.2.1 x.2.2.2.1 x.2.2.2.2.1 x.2.2.2.2.2.1 x.2.2.2.2.2.2.1 x.2.2.2.2.2.2.2.1 w)
theorem digest_wide_l2_se_ok (K : Nat) (R : Rg) (h : subRB [(7, 8), (41, 55)] R = true) : (digest_wide_l2_se K).Ok prog R (.block 4 (.loop (cd (bodyOf f38) [1, 0, 0, 1, 0, 0, 0, 1, 0, 0, 1, 1, 0, 0, 1, 1, 0, 0]))) := stmtN_ok (Li := [(0, .ptr), (1, .sl), (4, .addr), (5, .int .i64), (30, .int .i64), (39, .sl), (40, .int .i64), (41, .int .i64)]) (Lo := []) (S := (fun x w => digest_wide_l2 K K x.1 x.2.1 x.2.2.1 x.2.2.2.1 x.2.2.2.2.1 x.2.2.2.2.2.1 x.2.2.2.2.2.2.1 x.2.2.2.2.2.2.2.1 w)) (digest_wide_l2_ok K K) (subR_of h)
theorem digest_wide_l1_ok (K : Nat) (n : Nat) : StmtNOk prog [(0, .ptr), (1, .sl), (4, .addr), (30, .int .i64)] [] [(5, 6), (7, 8), (30, 56)] ((fun n x w => digest_wide_l1 K n x.1 x.2.1 x.2.2.1 x.2.2.2.1 w) n) (.block 2 (.loop (cd (bodyOf f38) [1, 0, 0, 1, 0, 0, 0, 1, 0, 0]))) :=
    mk_loopN (O := tabL [([1, 0, 0, 1, 0, 0, 0, 1, 0, 0, 1, 1, 0, 0, 1, 1], digest_wide_l2_se K)]) (root := (bodyOf f38)) (π := [1, 0, 0, 1, 0, 0, 0, 1, 0, 0]) (id := 2) (Li := [(0, .ptr), (1, .sl), (4, .addr), (30, .int .i64)]) (Lo := []) (S := (fun n x w => digest_wide_l1 K n x.1 x.2.1 x.2.2.1 x.2.2.2.1 w)) (body := cd (bodyOf f38) [1, 0, 0, 1, 0, 0, 0, 1, 0, 0]) (digest_wide_Eok K) (digest_wide_Rok K) rfl (Orc.cons (by kernel_rfl) (digest_wide_l2_se_ok K [(5, 6), (7, 8), (30, 56)] (by kernel_rfl)) (Orc.nil _ _ _)) (by kernel_rfl) (fun _ _ => by kernel_rfl) (fun _ _ _ => by kernel_rfl) n
noncomputable def digest_wide_l1_se (K : Nat) : SE := stmtN [(0, .ptr), (1, .sl), (4, .addr), (30, .int .i64)] [] [(5, 6), (7, 8), (30, 56)] (fun x w => digest_wide_l1 K K x.1 x.2.1 x.2.2.1 x.2.2.2.1 w)
theorem digest_wide_l1_se_ok (K : Nat) (R : Rg) (h : subRB [(5, 6), (7, 8), (30, 56)] R = true) : (digest_wide_l1_se K).Ok prog R (.block 2 (.loop (cd (bodyOf f38) [1, 0, 0, 1, 0, 0, 0, 1, 0, 0]))) := stmtN_ok (Li := [(0, .ptr), (1, .sl), (4, .addr), (30, .int .i64)]) (Lo := []) (S := (fun x w => digest_wide_l1 K K x.1 x.2.1 x.2.2.1 x.2.2.2.1 w)) (digest_wide_l1_ok K K) (subR_of h)
theorem digest_wide_l3_ok (K : Nat) (n : Nat) : StmtNOk prog [(0, .ptr), (1, .sl), (4, .addr), (8, .int .i64)] [] [(8, 11), (56, 97)] ((fun n x w => digest_wide_l3 K n x.1 x.2.1 x.2.2.1 x.2.2.2.1 w) n) (.block 6 (.loop (cd (bodyOf f38) [1, 0, 0, 1, 0, 0, 1, 0, 1, 0, 0]))) :=
    mk_loopN (O := tabL []) (root := (bodyOf f38)) (π := [1, 0, 0, 1, 0, 0, 1, 0, 1, 0, 0]) (id := 6) (Li := [(0, .ptr), (1, .sl), (4, .addr), (8, .int .i64)]) (Lo := []) (S := (fun n x w => digest_wide_l3 K n x.1 x.2.1 x.2.2.1 x.2.2.2.1 w)) (body := cd (bodyOf f38) [1, 0, 0, 1, 0, 0, 1, 0, 1, 0, 0]) (digest_wide_Eok K) (digest_wide_Rok K) rfl (Orc.nil _ _ _) (by kernel_rfl) (fun _ _ => by kernel_rfl) (fun _ _ _ => by kernel_rfl) n
noncomputable def digest_wide_l3_se (K : Nat) : SE := stmtN [(0, .ptr), (1, .sl), (4, .addr), (8, .int .i64)] [] [(8, 11), (56, 97)] (fun x w => digest_wide_l3 K K x.1 x.2.1 x.2.2.1 x.2.2.2.1 w)
theorem digest_wide_l3_se_ok (K : Nat) (R : Rg) (h : subRB [(8, 11), (56, 97)] R = true) : (digest_wide_l3_se K).Ok prog R (.block 6 (.loop (cd (bodyOf f38) [1, 0, 0, 1, 0, 0, 1, 0, 1, 0, 0]))) := stmtN_ok (Li := [(0, .ptr), (1, .sl), (4, .addr), (8, .int .i64)]) (Lo := []) (S := (fun x w => digest_wide_l3 K K x.1 x.2.1 x.2.2.1 x.2.2.2.1 w)) (digest_wide_l3_ok K K) (subR_of h)
theorem digest_wide_l4_ok (K : Nat) (n : Nat) : StmtNOk prog [(0, .ptr), (1, .sl), (4, .addr), (11, .int .u64), (12, .int .u64), (13, .int .u64), (14, .int .u64), (15, .int .u64), (16, .int .u64), (17, .int .u64), (18, .int .u64), (129, .agg), (130, .int .i64)] [(11, .int .u64), (12, .int .u64), (13, .int .u64), (14, .int .u64), (15, .int .u64), (16, .int .u64), (17, .int .u64), (18, .int .u64)] [(11, 23), (130, 192)] ((fun n x w => digest_wide_l4 K n x.1 x.2.1 x.2.2.1 x.2.2.2.1 x.2.2.2.2.1 x.2.2.2.2.2.1 x.2.2.2.2.2.2.1 x.2.2.2.2.2.2.2.1 x.2.2.2.2.2.2.2.2.1 x.2.2.2.2.2.2.2.2.2.1 x.2.2.2.2.2.2.2.2.2.2.1 x.2.2.2.2.2.2.2.2.2.2.2.1 x.2.2.2.2.2.2.2.2.2.2.2.2.1 w) n) (.block 8 (.loop (cd (bodyOf f38) [1, 0, 0, 1, 0, 0, 1, 1, 1, 0, 1, 0, 0]))) :=
    mk_loopN (O := tabL []) (root := (bodyOf f38)) (π := [1, 0, 0, 1, 0, 0, 1, 1, 1, 0, 1, 0, 0]) (id := 8) (Li := [(0, .ptr), (1, .sl), (4, .addr), (11, .int .u64), (12, .int .u64), (13, .int .u64), (14, .int .u64), (15, .int .u64), (16, .int .u64), (17, .int .u64), (18, .int .u64), (129, .agg), (130, .int .i64)]) (Lo := [(11, .int .u64), (12, .int .u64), (13, .int .u64), (14, .int .u64), (15, .int .u64), (16, .int .u64), (17, .int .u64), (18, .int .u64)]) (S := (fun n x w => digest_wide_l4 K n x.1 x.2.1 x.2.2.1 x.2.2.2.1 x.2.2.2.2.1 x.2.2.2.2.2.1 x.2.2.2.2.2.2.1 x.2.2.2.2.2.2.2.1 x.2.2.2.2.2.2.2.2.1 x.2.2.2.2.2.2.2.2.2.1 x.2.2.2.2.2.2.2.2.2.2.1 x.2.2.2.2.2.2.2.2.2.2.2.1 x.2.2.2.2.2.2.2.2.2.2.2.2.1 w)) (body := cd (bodyOf f38) [1, 0, 0, 1, 0, 0, 1, 1, 1, 0, 1, 0, 0]) (digest_wide_Eok K) (digest_wide_Rok K) rfl (Orc.nil _ _ _) (by kernel_rfl) (fun _ _ => by kernel_rfl) (fun _ _ _ => by kernel_rfl) n
noncomputable def digest_wide_l4_se (K : Nat) : SE := stmtN [(0, .ptr), (1, .sl), (4, .addr), (11, .int .u64), (12, .int .u64), (13, .int .u64), (14, .int .u64), (15, .int .u64), (16, .int .u64), (17, .int .u64), (18, .int .u64), (129, .agg), (130, .int .i64)] [(11, .int .u64), (12, .int .u64), (13, .int .u64), (14, .int .u64), (15, .int .u64), (16, .int .u64), (17, .int .u64), (18, .int .u64)] [(11, 23), (130, 192)] (fun x w => digest_wide_l4 K K x.1 x.2.1 x.2.2.1 x.2.2.2.1 x.2.2.2.2.1 x.2.2.2.2.2.1 x.2.2.2.2.2.2.1 x.2.2.2.2.2.2.2.1 x.2.2.2.2.2.2.2.2.1 x.2.2.2.2.2.2.2.2.2.1 x.2.2.2.2.2.2.2.2.2.2.1 x.2.2.2.2.2.2.2.2.2.2.2.1 x.2.2.2.2.2.2.2.2.2.2.2.2.1 w)
theorem digest_wide_l4_se_ok (K : Nat) (R : Rg) (h : subRB [(11, 23), (130, 192)] R = true) : (digest_wide_l4_se K).Ok prog R (.block 8 (.loop (cd (bodyOf f38) [1, 0, 0, 1, 0, 0, 1, 1, 1, 0, 1, 0, 0]))) := stmtN_ok (Li := [(0, .ptr), (1, .sl), (4, .addr), (11, .int .u64), (12, .int .u64), (13, .int .u64), (14, .int .u64), (15, .int .u64), (16, .int .u64), (17, .int .u64), (18, .int .u64), (129, .agg), (130, .int .i64)]) (Lo := [(11, .int .u64), (12, .int .u64), (13, .int .u64), (14, .int .u64), (15, .int .u64), (16, .int .u64), (17, .int .u64), (18, .int .u64)]) (S := (fun x w => digest_wide_l4 K K x.1 x.2.1 x.2.2.1 x.2.2.2.1 x.2.2.2.2.1 x.2.2.2.2.2.1 x.2.2.2.2.2.2.1 x.2.2.2.2.2.2.2.1 x.2.2.2.2.2.2.2.2.1 x.2.2.2.2.2.2.2.2.2.1 x.2.2.2.2.2.2.2.2.2.2.1 x.2.2.2.2.2.2.2.2.2.2.2.1 x.2.2.2.2.2.2.2.2.2.2.2.2.1 w)) (digest_wide_l4_ok K K) (subR_of h)
theorem digest_wide_l5_ok (K : Nat) (n : Nat) : StmtNOk prog [(0, .ptr), (1, .sl), (4, .addr), (200, .agg), (201, .int .i64)] [] [(23, 25), (201, 215)] ((fun n x w => digest_wide_l5 K n x.1 x.2.1 x.2.2.1 x.2.2.2.1 x.2.2.2.2.1 w) n) (.block 10 (.loop (cd (bodyOf f38) [1, 0, 0, 1, 0, 0, 1, 1, 1, 1, 1, 0, 0]))) :=
    mk_loopN (O := tabL []) (root := (bodyOf f38)) (π := [1, 0, 0, 1, 0, 0, 1, 1, 1, 1, 1, 0, 0]) (id := 10) (Li := [(0, .ptr), (1, .sl), (4, .addr), (200, .agg), (201, .int .i64)]) (Lo := []) (S := (fun n x w => digest_wide_l5 K n x.1 x.2.1 x.2.2.1 x.2.2.2.1 x.2.2.2.2.1 w)) (body := cd (bodyOf f38) [1, 0, 0, 1, 0, 0, 1, 1, 1, 1, 1, 0, 0]) (digest_wide_Eok K) (digest_wide_Rok K) rfl (Orc.nil _ _ _) (by kernel_rfl) (fun _ _ => by kernel_rfl) (fun _ _ _ => by kernel_rfl) n
noncomputable def digest_wide_l5_se (K : Nat) : SE := stmtN [(0, .ptr), (1, .sl), (4, .addr), (200, .agg), (201, .int .i64)] [] [(23, 25), (201, 215)] (fun x w => digest_wide_l5 K K x.1 x.2.1 x.2.2.1 x.2.2.2.1 x.2.2.2.2.1 w)
theorem digest_wide_l5_se_ok (K : Nat) (R : Rg) (h : subRB [(23, 25), (201, 215)] R = true) : (digest_wide_l5_se K).Ok prog R (.block 10 (.loop (cd (bodyOf f38) [1, 0, 0, 1, 0, 0, 1, 1, 1, 1, 1, 0, 0]))) := stmtN_ok (Li := [(0, .ptr), (1, .sl), (4, .addr), (200, .agg), (201, .int .i64)]) (Lo := []) (S := (fun x w => digest_wide_l5 K K x.1 x.2.1 x.2.2.1 x.2.2.2.1 x.2.2.2.2.1 w)) (digest_wide_l5_ok K K) (subR_of h)
theorem digest_wide_l0_ok (K : Nat) (n : Nat) : StmtNOk prog [(0, .ptr), (1, .sl), (4, .addr)] [] [(1, 2), (5, 6), (7, 215)] ((fun n x w => digest_wide_l0 K n x.1 x.2.1 x.2.2.1 w) n) (.block 0 (.loop (cd (bodyOf f38) [1, 0, 0]))) :=
    mk_loopN (O := tabL [([1, 0, 0, 1, 0, 0, 0, 1], digest_wide_l1_se K), ([1, 0, 0, 1, 0, 0, 0, 1, 0, 0, 1, 1, 0, 0, 1, 1], digest_wide_l2_se K), ([1, 0, 0, 1, 0, 0, 1, 0, 1], digest_wide_l3_se K), ([1, 0, 0, 1, 0, 0, 1, 1, 1, 0, 1], digest_wide_l4_se K), ([1, 0, 0, 1, 0, 0, 1, 1, 1, 1, 1], digest_wide_l5_se K)]) (root := (bodyOf f38)) (π := [1, 0, 0]) (id := 0) (Li := [(0, .ptr), (1, .sl), (4, .addr)]) (Lo := []) (S := (fun n x w => digest_wide_l0 K n x.1 x.2.1 x.2.2.1 w)) (body := cd (bodyOf f38) [1, 0, 0]) (digest_wide_Eok K) (digest_wide_Rok K) rfl (Orc.cons (by kernel_rfl) (digest_wide_l1_se_ok K [(1, 2), (5, 6), (7, 215)] (by kernel_rfl)) (Orc.cons (by kernel_rfl) (digest_wide_l2_se_ok K [(1, 2), (5, 6), (7, 215)] (by kernel_rfl)) (Orc.cons (by kernel_rfl) (digest_wide_l3_se_ok K [(1, 2), (5, 6), (7, 215)] (by kernel_rfl)) (Orc.cons (by kernel_rfl) (digest_wide_l4_se_ok K [(1, 2), (5, 6), (7, 215)] (by kernel_rfl)) (Orc.cons (by kernel_rfl) (digest_wide_l5_se_ok K [(1, 2), (5, 6), (7, 215)] (by kernel_rfl)) (Orc.nil _ _ _)))))) (by kernel_rfl) (fun _ _ => by kernel_rfl) (fun _ _ _ => by kernel_rfl) n
noncomputable def digest_wide_l0_se (K : Nat) : SE := stmtN [(0, .ptr), (1, .sl), (4, .addr)] [] [(1, 2), (5, 6), (7, 215)] (fun x w => digest_wide_l0 K K x.1 x.2.1 x.2.2.1 w)
theorem digest_wide_l0_se_ok (K : Nat) (R : Rg) (h : subRB [(1, 2), (5, 6), (7, 215)] R = true) : (digest_wide_l0_se K).Ok prog R (.block 0 (.loop (cd (bodyOf f38) [1, 0, 0]))) := stmtN_ok (Li := [(0, .ptr), (1, .sl), (4, .addr)]) (Lo := []) (S := (fun x w => digest_wide_l0 K K x.1 x.2.1 x.2.2.1 w)) (digest_wide_l0_ok K K) (subR_of h)
theorem digest_wide_facts : FunFacts prog 38 f38 (bodyOf f38) [(0, .ptr), (1, .sl)] [(0, 215)] := ⟨func38, by kernel_rfl, by kernel_rfl, by kernel_rfl, by kernel_rfl, by kernel_rfl⟩
theorem digest_wide_calls (K : Nat) (x : TT [(0, .ptr), (1, .sl)]) (w : World) (y : TR []) (w2 : World) (h : digest_wide K x.1 x.2.1 w = some (y, w2)) : Calls prog 38 (encA [(0, .ptr), (1, .sl)] x).toArray w (fun e w3 => e = .returned (resV (encR [] y)) ∧ w3 = w2) :=
    mk_fun (O := tabL [([1], digest_wide_l0_se K), ([1, 0, 0, 1, 0, 0, 0, 1], digest_wide_l1_se K), ([1, 0, 0, 1, 0, 0, 0, 1, 0, 0, 1, 1, 0, 0, 1, 1], digest_wide_l2_se K), ([1, 0, 0, 1, 0, 0, 1, 0, 1], digest_wide_l3_se K), ([1, 0, 0, 1, 0, 0, 1, 1, 1, 0, 1], digest_wide_l4_se K), ([1, 0, 0, 1, 0, 0, 1, 1, 1, 1, 1], digest_wide_l5_se K)]) (Lp := [(0, .ptr), (1, .sl)]) (Rt := []) (S := (fun x w => digest_wide K x.1 x.2.1 w)) (digest_wide_Eok K) (digest_wide_Rok K) rfl digest_wide_facts (Orc.cons (by kernel_rfl) (digest_wide_l0_se_ok K [(0, 215)] (by kernel_rfl)) (Orc.cons (by kernel_rfl) (digest_wide_l1_se_ok K [(0, 215)] (by kernel_rfl)) (Orc.cons (by kernel_rfl) (digest_wide_l2_se_ok K [(0, 215)] (by kernel_rfl)) (Orc.cons (by kernel_rfl) (digest_wide_l3_se_ok K [(0, 215)] (by kernel_rfl)) (Orc.cons (by kernel_rfl) (digest_wide_l4_se_ok K [(0, 215)] (by kernel_rfl)) (Orc.cons (by kernel_rfl) (digest_wide_l5_se_ok K [(0, 215)] (by kernel_rfl)) (Orc.nil _ _ _))))))) (fun _ _ => by kernel_rfl) x w y w2 h
noncomputable def digest_wide_ce (K : Nat) : CE := funE [(0, .ptr), (1, .sl)] [] (fun x w => digest_wide K x.1 x.2.1 w)
theorem digest_wide_ok (K : Nat) : (digest_wide_ce K).Ok prog 38 := funE_ok (Rt := []) (S := (fun x w => digest_wide K x.1 x.2.1 w)) digest_wide_facts fun x w y w2 h => digest_wide_calls K x w y w2 h

noncomputable def bits_RotateLeft32_R : List (Nat × RE) := []
theorem bits_RotateLeft32_Rok : REnv.Ok prog (tab (bits_RotateLeft32_R)) := (REnv.nil _)
/-- math/bits.RotateLeft32 -/
noncomputable def bits_RotateLeft32 (x0 : Int) (k1 : Int) : Option (Int × Unit) :=
  if (0 : Int) ≤ (bits .and .u64 (IntKind.u64.wrap k1) 31) then (if (0 : Int) ≤ (IntKind.u64.wrap (32 - (bits .and .u64 (IntKind.u64.wrap k1) 31))) then (some ((bits .or .u32 (IntKind.u32.wrap (x0 * 2 ^ (min (Int.toNat (bits .and .u64 (IntKind.u64.wrap k1) 31)) IntKind.u32.bits))) (Int.fdiv x0 (2 ^ (min (Int.toNat (IntKind.u64.wrap (32 - (bits .and .u64 (IntKind.u64.wrap k1) 31)))) IntKind.u32.bits)))), ())) else none) else none
theorem bits_RotateLeft32_facts : FunFacts prog 48 f48 (bodyOf f48) [(0, .int .u32), (1, .int .i64)] [(0, 17)] := ⟨func48, by kernel_rfl, by kernel_rfl, by kernel_rfl, by kernel_rfl, by kernel_rfl⟩
theorem bits_RotateLeft32_calls (x : TT [(0, .int .u32), (1, .int .i64)]) (w : World) (y : TR [.int .u32]) (h : bits_RotateLeft32 x.1 x.2.1 = some y) : Calls prog 48 (encA [(0, .int .u32), (1, .int .i64)] x).toArray w (fun e w3 => e = .returned (resV (encR [.int .u32] y)) ∧ w3 = w) :=
    mk_funQ (O := tabL []) (Lp := [(0, .int .u32), (1, .int .i64)]) (Rt := [.int .u32]) (S := (fun x w => bits_RotateLeft32 x.1 x.2.1)) (bits_RotateLeft32_Rok) bits_RotateLeft32_facts (OrcQ.nil _ _ _) (fun _ _ => by kernel_rfl) x w y h
noncomputable def bits_RotateLeft32_re : RE := funR [(0, .int .u32), (1, .int .i64)] [.int .u32] (fun x w => bits_RotateLeft32 x.1 x.2.1)
theorem bits_RotateLeft32_ok : (bits_RotateLeft32_re).Ok prog 48 := funR_ok (Rt := [.int .u32]) (S := (fun x w => bits_RotateLeft32 x.1 x.2.1)) bits_RotateLeft32_facts fun x w y h => bits_RotateLeft32_calls x w y h

noncomputable def digest_narrow_E (K : Nat) : List (Nat × CE) := []
theorem digest_narrow_Eok (K : Nat) : Env.Ok prog (tab (digest_narrow_E K)) := (Env.nil _)
noncomputable def digest_narrow_R (K : Nat) : List (Nat × RE) := [(48, bits_RotateLeft32_re)]
theorem digest_narrow_Rok (K : Nat) : REnv.Ok prog (tab (digest_narrow_R K)) := (REnv.cons (bits_RotateLeft32_ok) (REnv.nil _))
noncomputable def digest_narrow_l1_b (K : Nat) (rec : Option Addr → Sl → Addr → Int → World → Option ((Unit) × World)) (h0 : Option Addr) (b1 : Sl) (w4 : Addr) (a31 : Int) (w : World) : Option ((Unit) × World) :=
  if (decide (a31 < 16)) = true then (if (0 : Int) ≤ (IntKind.i64.wrap ((IntKind.i64.wrap (4 * a31)) + 4)) ∧ (IntKind.i64.wrap ((IntKind.i64.wrap (4 * a31)) + 4)) ≤ ((b1.cap : Nat) : Int) then (if (0 : Int) ≤ (IntKind.i64.wrap (4 * a31)) ∧ (IntKind.i64.wrap (4 * a31)) ≤ (((Int.toNat ((IntKind.i64.wrap ((IntKind.i64.wrap (4 * a31)) + 4)))) : Nat) : Int) then (((sla b1.a (Int.toNat ((IntKind.i64.wrap (4 * a31)))) b1.cap 1)).bind fun p_3 =>
  if (0 : Int) ≤ 0 ∧ 0 < ((((Int.toNat ((IntKind.i64.wrap ((IntKind.i64.wrap (4 * a31)) + 4)))) - (Int.toNat ((IntKind.i64.wrap (4 * a31))))) : Nat) : Int) then (((sla b1.a (Int.toNat ((IntKind.i64.wrap (4 * a31)))) b1.cap 1)).bind fun p_4 =>
  if (0 : Int) ≤ 1 ∧ 1 < ((((Int.toNat ((IntKind.i64.wrap ((IntKind.i64.wrap (4 * a31)) + 4)))) - (Int.toNat ((IntKind.i64.wrap (4 * a31))))) : Nat) : Int) then (((sla b1.a (Int.toNat ((IntKind.i64.wrap (4 * a31)))) b1.cap 1)).bind fun p_5 =>
  if (0 : Int) ≤ 2 ∧ 2 < ((((Int.toNat ((IntKind.i64.wrap ((IntKind.i64.wrap (4 * a31)) + 4)))) - (Int.toNat ((IntKind.i64.wrap (4 * a31))))) : Nat) : Int) then (((sla b1.a (Int.toNat ((IntKind.i64.wrap (4 * a31)))) b1.cap 1)).bind fun p_6 =>
  if (0 : Int) ≤ 3 ∧ 3 < ((((Int.toNat ((IntKind.i64.wrap ((IntKind.i64.wrap (4 * a31)) + 4)))) - (Int.toNat ((IntKind.i64.wrap (4 * a31))))) : Nat) : Int) then ((ldI .u8 (p_3.add (0 * 1)) w.drew).bind fun v_7 =>
  (ldI .u8 (p_4.add (1 * 1)) w.drew).bind fun v_8 =>
  (ldI .u8 (p_5.add (2 * 1)) w.drew).bind fun v_9 =>
  (ldI .u8 (p_6.add (3 * 1)) w.drew).bind fun v_10 =>
  if (0 : Int) ≤ a31 ∧ a31 < ((64 : Nat) : Int) then ((stC (w4.add ((Int.toNat a31) * 1)) (.int .u32 (bits .or .u32 (bits .or .u32 (bits .or .u32 (IntKind.u32.wrap ((IntKind.u32.wrap v_7) * 2 ^ 24)) (IntKind.u32.wrap ((IntKind.u32.wrap v_8) * 2 ^ 16))) (IntKind.u32.wrap ((IntKind.u32.wrap v_9) * 2 ^ 8))) (IntKind.u32.wrap v_10))) w.drew).bind fun w_11 =>
  rec h0 b1 w4 (IntKind.i64.wrap (a31 + 1)) w_11) else none) else none) else none) else none) else none) else none) else none) else (some ((), w))
noncomputable def digest_narrow_l1 (K : Nat) (n : Nat) : Option Addr → Sl → Addr → Int → World → Option ((Unit) × World) := iter (fun _ _ _ _ _ => none) (digest_narrow_l1_b K) n
noncomputable def digest_narrow_l2_b (K : Nat) (rec : Option Addr → Sl → Addr → Int → World → Option ((Unit) × World)) (h0 : Option Addr) (b1 : Sl) (w4 : Addr) (i7 : Int) (w : World) : Option ((Unit) × World) :=
  if (decide (i7 < 64)) = true then (if (0 : Int) ≤ (IntKind.i64.wrap (i7 - 15)) ∧ (IntKind.i64.wrap (i7 - 15)) < ((64 : Nat) : Int) then (if (0 : Int) ≤ (IntKind.i64.wrap (i7 - 2)) ∧ (IntKind.i64.wrap (i7 - 2)) < ((64 : Nat) : Int) then ((ldI .u32 (w4.add ((Int.toNat (IntKind.i64.wrap (i7 - 15))) * 1)) w.drew).bind fun v_14 =>
  (ldI .u32 (w4.add ((Int.toNat (IntKind.i64.wrap (i7 - 2))) * 1)) w.drew).bind fun v_15 =>
  if (0 : Int) ≤ (IntKind.i64.wrap (i7 - 16)) ∧ (IntKind.i64.wrap (i7 - 16)) < ((64 : Nat) : Int) then (if (0 : Int) ≤ (IntKind.i64.wrap (i7 - 7)) ∧ (IntKind.i64.wrap (i7 - 7)) < ((64 : Nat) : Int) then ((ldI .u32 (w4.add ((Int.toNat (IntKind.i64.wrap (i7 - 16))) * 1)) w.drew.drew).bind fun v_16 =>
  (ldI .u32 (w4.add ((Int.toNat (IntKind.i64.wrap (i7 - 7))) * 1)) w.drew.drew).bind fun v_17 =>
  (bits_RotateLeft32 v_14 (-7)).bind fun r_18 =>
  (bits_RotateLeft32 v_14 (-18)).bind fun r_19 =>
  (bits_RotateLeft32 v_15 (-17)).bind fun r_20 =>
  (bits_RotateLeft32 v_15 (-19)).bind fun r_21 =>
  if (0 : Int) ≤ i7 ∧ i7 < ((64 : Nat) : Int) then ((stC (w4.add ((Int.toNat i7) * 1)) (.int .u32 (IntKind.u32.wrap ((IntKind.u32.wrap ((IntKind.u32.wrap (v_16 + v_17)) + (bits .xor .u32 (bits .xor .u32 r_18.1 r_19.1) (Int.fdiv v_14 (2 ^ 3))))) + (bits .xor .u32 (bits .xor .u32 r_20.1 r_21.1) (Int.fdiv v_15 (2 ^ 10)))))) w.drew.drew).bind fun w_22 =>
  rec h0 b1 w4 (IntKind.i64.wrap (i7 + 1)) w_22) else none) else none) else none) else none) else none) else (some ((), w))
noncomputable def digest_narrow_l2 (K : Nat) (n : Nat) : Option Addr → Sl → Addr → Int → World → Option ((Unit) × World) := iter (fun _ _ _ _ _ => none) (digest_narrow_l2_b K) n
noncomputable def digest_narrow_l3_b (K : Nat) (rec : Option Addr → Sl → Addr → Addr → Int → World → Option ((Unit) × World)) (h0 : Option Addr) (b1 : Sl) (w4 : Addr) (v10 : Addr) (a107 : Int) (w : World) : Option ((Unit) × World) :=
  if (decide (a107 < 8)) = true then ((h0).bind fun p_27 =>
  if (0 : Int) ≤ a107 ∧ a107 < ((8 : Nat) : Int) then ((ldI .u64 (p_27.add ((Int.toNat a107) * 1)) w).bind fun v_28 =>
  if (0 : Int) ≤ a107 ∧ a107 < ((8 : Nat) : Int) then ((stC (v10.add ((Int.toNat a107) * 1)) (.int .u32 (IntKind.u32.wrap v_28)) w).bind fun w_29 =>
  rec h0 b1 w4 v10 (IntKind.i64.wrap (a107 + 1)) w_29) else none) else none) else (some ((), w))
noncomputable def digest_narrow_l3 (K : Nat) (n : Nat) : Option Addr → Sl → Addr → Addr → Int → World → Option ((Unit) × World) := iter (fun _ _ _ _ _ _ => none) (digest_narrow_l3_b K) n
noncomputable def digest_narrow_l4_b (K : Nat) (rec : Option Addr → Sl → Addr → Addr → Int → Int → Int → Int → Int → Int → Int → Int → Int → World → Option ((Int × Int × Int × Int × Int × Int × Int × Int × Unit) × World)) (h0 : Option Addr) (b1 : Sl) (w4 : Addr) (v10 : Addr) (a12 : Int) (b113 : Int) (c14 : Int) (d15 : Int) (e16 : Int) (f17 : Int) (g18 : Int) (k19 : Int) (a135 : Int) (w : World) : Option ((Int × Int × Int × Int × Int × Int × Int × Int × Unit) × World) :=
  if (decide (a135 < 64)) = true then (if (0 : Int) ≤ a135 ∧ a135 < ((80 : Nat) : Int) then ((ldI .u64 ((⟨0, 0, none⟩ : Addr).add ((Int.toNat a135) * 1)) w).bind fun v_40 =>
  if (0 : Int) ≤ a135 ∧ a135 < ((64 : Nat) : Int) then ((bits_RotateLeft32 e16 (-6)).bind fun r_41 =>
  (bits_RotateLeft32 e16 (-11)).bind fun r_42 =>
  (bits_RotateLeft32 e16 (-25)).bind fun r_43 =>
  (ldI .u32 (w4.add ((Int.toNat a135) * 1)) w.drew).bind fun v_44 =>
  (bits_RotateLeft32 a12 (-2)).bind fun r_45 =>
  (bits_RotateLeft32 a12 (-13)).bind fun r_46 =>
  (bits_RotateLeft32 a12 (-22)).bind fun r_47 =>
  rec h0 b1 w4 v10 (IntKind.u32.wrap ((IntKind.u32.wrap ((IntKind.u32.wrap ((IntKind.u32.wrap ((IntKind.u32.wrap (k19 + (bits .xor .u32 (bits .xor .u32 r_41.1 r_42.1) r_43.1))) + (bits .xor .u32 (bits .and .u32 e16 f17) (bits .and .u32 (bits .xor .u32 IntKind.u32.max e16) g18)))) + (IntKind.u32.wrap (Int.fdiv v_40 (2 ^ 32))))) + v_44)) + (IntKind.u32.wrap ((bits .xor .u32 (bits .xor .u32 r_45.1 r_46.1) r_47.1) + (bits .xor .u32 (bits .xor .u32 (bits .and .u32 a12 b113) (bits .and .u32 a12 c14)) (bits .and .u32 b113 c14)))))) a12 b113 c14 (IntKind.u32.wrap (d15 + (IntKind.u32.wrap ((IntKind.u32.wrap ((IntKind.u32.wrap ((IntKind.u32.wrap (k19 + (bits .xor .u32 (bits .xor .u32 r_41.1 r_42.1) r_43.1))) + (bits .xor .u32 (bits .and .u32 e16 f17) (bits .and .u32 (bits .xor .u32 IntKind.u32.max e16) g18)))) + (IntKind.u32.wrap (Int.fdiv v_40 (2 ^ 32))))) + v_44)))) e16 f17 g18 (IntKind.i64.wrap (a135 + 1)) w.drew) else none) else none) else (some ((a12, b113, c14, d15, e16, f17, g18, k19, ()), w))
noncomputable def digest_narrow_l4 (K : Nat) (n : Nat) : Option Addr → Sl → Addr → Addr → Int → Int → Int → Int → Int → Int → Int → Int → Int → World → Option ((Int × Int × Int × Int × Int × Int × Int × Int × Unit) × World) := iter (fun _ _ _ _ _ _ _ _ _ _ _ _ _ _ => none) (digest_narrow_l4_b K) n
noncomputable def digest_narrow_l5_b (K : Nat) (rec : Option Addr → Sl → Addr → Addr → Array Value → Int → World → Option ((Unit) × World)) (h0 : Option Addr) (b1 : Sl) (w4 : Addr) (v10 : Addr) (a209 : Array Value) (a210 : Int) (w : World) : Option ((Unit) × World) :=
  if (decide (a210 < 8)) = true then (if (0 : Int) ≤ a210 ∧ a210 < ((8 : Nat) : Int) then ((a209[((Int.toNat a210) * 1)]?).bind fun v_51 =>
  (asI .u32 v_51).bind fun v_52 =>
  if (0 : Int) ≤ a210 ∧ a210 < ((8 : Nat) : Int) then ((h0).bind fun p_53 =>
  (ldI .u32 (v10.add ((Int.toNat a210) * 1)) w.drew).bind fun v_54 =>
  if (0 : Int) ≤ a210 ∧ a210 < ((8 : Nat) : Int) then ((stC (p_53.add ((Int.toNat a210) * 1)) (.int .u64 (IntKind.u64.wrap (IntKind.u32.wrap (v_54 + v_52)))) w.drew).bind fun w_55 =>
  rec h0 b1 w4 v10 a209 (IntKind.i64.wrap (a210 + 1)) w_55) else none) else none) else none) else (some ((), w))
noncomputable def digest_narrow_l5 (K : Nat) (n : Nat) : Option Addr → Sl → Addr → Addr → Array Value → Int → World → Option ((Unit) × World) := iter (fun _ _ _ _ _ _ _ => none) (digest_narrow_l5_b K) n
noncomputable def digest_narrow_l0_b (K : Nat) (rec : Option Addr → Sl → Addr → World → Option ((Unit) × World)) (h0 : Option Addr) (b1 : Sl) (w4 : Addr) (w : World) : Option ((Unit) × World) :=
  if (decide (((b1.len : Nat) : Int) ≥ 64)) = true then (bnd (digest_narrow_l1 K K h0 b1 w4 0 w) fun y_12 w_13 =>
  bnd (digest_narrow_l2 K K h0 b1 w4 16 w_13) fun y_23 w_24 =>
  bnd (newB z82 82 w_24) fun v_25 w_26 =>
  bnd (digest_narrow_l3 K K h0 b1 w4 v_25 0 w_26) fun y_30 w_31 =>
  (ldI .u32 (v_25.add (0 * 1)) w_31.drew).bind fun v_32 =>
  (ldI .u32 (v_25.add (1 * 1)) w_31.drew).bind fun v_33 =>
  (ldI .u32 (v_25.add (2 * 1)) w_31.drew).bind fun v_34 =>
  (ldI .u32 (v_25.add (3 * 1)) w_31.drew).bind fun v_35 =>
  (ldI .u32 (v_25.add (4 * 1)) w_31.drew).bind fun v_36 =>
  (ldI .u32 (v_25.add (5 * 1)) w_31.drew).bind fun v_37 =>
  (ldI .u32 (v_25.add (6 * 1)) w_31.drew).bind fun v_38 =>
  (ldI .u32 (v_25.add (7 * 1)) w_31.drew).bind fun v_39 =>
  bnd (digest_narrow_l4 K K h0 b1 w4 v_25 v_32 v_33 v_34 v_35 v_36 v_37 v_38 v_39 0 w_31.drew) fun y_48 w_49 =>
  (prog.built 82 [(0, (.int .u32 y_48.1)), (1, (.int .u32 y_48.2.1)), (2, (.int .u32 y_48.2.2.1)), (3, (.int .u32 y_48.2.2.2.1)), (4, (.int .u32 y_48.2.2.2.2.1)), (5, (.int .u32 y_48.2.2.2.2.2.1)), (6, (.int .u32 y_48.2.2.2.2.2.2.1)), (7, (.int .u32 y_48.2.2.2.2.2.2.2.1))]).bind fun cs_50 =>
  bnd (digest_narrow_l5 K K h0 b1 w4 v_25 cs_50 0 w_49) fun y_56 w_57 =>
  if (0 : Int) ≤ 64 ∧ 64 ≤ ((b1.len : Nat) : Int) then (rec h0 ⟨(sla b1.a 64 b1.cap 1), (b1.len - 64), (b1.cap - 64)⟩ w4 w_57) else none) else (some ((), w))
noncomputable def digest_narrow_l0 (K : Nat) (n : Nat) : Option Addr → Sl → Addr → World → Option ((Unit) × World) := iter (fun _ _ _ _ => none) (digest_narrow_l0_b K) n
/-- coffer/digest.narrow -/
noncomputable def digest_narrow (K : Nat) (h0 : Option Addr) (b1 : Sl) (w : World) : Option ((Unit) × World) :=
  bnd (newB z80 80 w) fun w_1 w_2 =>
  bnd (digest_narrow_l0 K K h0 b1 w_1 w_2) fun y_58 w_59 =>
  some ((), w_59)
theorem digest_narrow_l1_ok (K : Nat) (n : Nat) : StmtNOk prog [(0, .ptr), (1, .sl), (4, .addr), (31, .int .i64)] [] [(5, 7), (31, 66)] ((fun n x w => digest_narrow_l1 K n x.1 x.2.1 x.2.2.1 x.2.2.2.1 w) n) (.block 2 (.loop (cd (bodyOf f37) [1, 0, 0, 1, 0, 0, 0, 1, 0, 0]))) :=
    mk_loopN (O := tabL []) (root := (bodyOf f37)) (π := [1, 0, 0, 1, 0, 0, 0, 1, 0, 0]) (id := 2) (Li := [(0, .ptr), (1, .sl), (4, .addr), (31, .int .i64)]) (Lo := []) (S := (fun n x w => digest_narrow_l1 K n x.1 x.2.1 x.2.2.1 x.2.2.2.1 w)) (body := cd (bodyOf f37) [1, 0, 0, 1, 0, 0, 0, 1, 0, 0]) (digest_narrow_Eok K) (digest_narrow_Rok K) rfl (Orc.nil _ _ _) (by kernel_rfl) (fun _ _ => by kernel_rfl) (fun _ _ _ => by kernel_rfl) n
noncomputable def digest_narrow_l1_se (K : Nat) : SE := stmtN [(0, .ptr), (1, .sl), (4, .addr), (31, .int .i64)] [] [(5, 7), (31, 66)] (fun x w => digest_narrow_l1 K K x.1 x.2.1 x.2.2.1 x.2.2.2.1 w)
theorem digest_narrow_l1_se_ok (K : Nat) (R : Rg) (h : subRB [(5, 7), (31, 66)] R = true) : (digest_narrow_l1_se K).Ok prog R (.block 2 (.loop (cd (bodyOf f37) [1, 0, 0, 1, 0, 0, 0, 1, 0, 0]))) := stmtN_ok (Li := [(0, .ptr), (1, .sl), (4, .addr), (31, .int .i64)]) (Lo := []) (S := (fun x w => digest_narrow_l1 K K x.1 x.2.1 x.2.2.1 x.2.2.2.1 w)) (digest_narrow_l1_ok K K) (subR_of h)
theorem digest_narrow_l2_ok (K : Nat) (n : Nat) : StmtNOk prog [(0, .ptr), (1, .sl), (4, .addr), (7, .int .i64)] [] [(7, 10), (66, 107)] ((fun n x w => digest_narrow_l2 K n x.1 x.2.1 x.2.2.1 x.2.2.2.1 w) n) (.block 4 (.loop (cd (bodyOf f37) [1, 0, 0, 1, 0, 0, 1, 0, 1, 0, 0]))) :=
    mk_loopN (O := tabL []) (root := (bodyOf f37)) (π := [1, 0, 0, 1, 0, 0, 1, 0, 1, 0, 0]) (id := 4) (Li := [(0, .ptr), (1, .sl), (4, .addr), (7, .int .i64)]) (Lo := []) (S := (fun n x w => digest_narrow_l2 K n x.1 x.2.1 x.2.2.1 x.2.2.2.1 w)) (body := cd (bodyOf f37) [1, 0, 0, 1, 0, 0, 1, 0, 1, 0, 0]) (digest_narrow_Eok K) (digest_narrow_Rok K) rfl (Orc.nil _ _ _) (by kernel_rfl) (fun _ _ => by kernel_rfl) (fun _ _ _ => by kernel_rfl) n
noncomputable def digest_narrow_l2_se (K : Nat) : SE := stmtN [(0, .ptr), (1, .sl), (4, .addr), (7, .int .i64)] [] [(7, 10), (66, 107)] (fun x w => digest_narrow_l2 K K x.1 x.2.1 x.2.2.1 x.2.2.2.1 w)
theorem digest_narrow_l2_se_ok (K : Nat) (R : Rg) (h : subRB [(7, 10), (66, 107)] R = true) : (digest_narrow_l2_se K).Ok prog R (.block 4 (.loop (cd (bodyOf f37) [1, 0, 0, 1, 0, 0, 1, 0, 1, 0, 0]))) := stmtN_ok (Li := [(0, .ptr), (1, .sl), (4, .addr), (7, .int .i64)]) (Lo := []) (S := (fun x w => digest_narrow_l2 K K x.1 x.2.1 x.2.2.1 x.2.2.2.1 w)) (digest_narrow_l2_ok K K) (subR_of h)
theorem digest_narrow_l3_ok (K : Nat) (n : Nat) : StmtNOk prog [(0, .ptr), (1, .sl), (4, .addr), (10, .addr), (107, .int .i64)] [] [(11, 12), (107, 119)] ((fun n x w => digest_narrow_l3 K n x.1 x.2.1 x.2.2.1 x.2.2.2.1 x.2.2.2.2.1 w) n) (.block 6 (.loop (cd (bodyOf f37) [1, 0, 0, 1, 0, 0, 1, 1, 1, 0, 1, 0, 0]))) :=
    mk_loopN (O := tabL []) (root := (bodyOf f37)) (π := [1, 0, 0, 1, 0, 0, 1, 1, 1, 0, 1, 0, 0]) (id := 6) (Li := [(0, .ptr), (1, .sl), (4, .addr), (10, .addr), (107, .int .i64)]) (Lo := []) (S := (fun n x w => digest_narrow_l3 K n x.1 x.2.1 x.2.2.1 x.2.2.2.1 x.2.2.2.2.1 w)) (body := cd (bodyOf f37) [1, 0, 0, 1, 0, 0, 1, 1, 1, 0, 1, 0, 0]) (digest_narrow_Eok K) (digest_narrow_Rok K) rfl (Orc.nil _ _ _) (by kernel_rfl) (fun _ _ => by kernel_rfl) (fun _ _ _ => by kernel_rfl) n
noncomputable def digest_narrow_l3_se (K : Nat) : SE := stmtN [(0, .ptr), (1, .sl), (4, .addr), (10, .addr), (107, .int .i64)] [] [(11, 12), (107, 119)] (fun x w => digest_narrow_l3 K K x.1 x.2.1 x.2.2.1 x.2.2.2.1 x.2.2.2.2.1 w)
theorem digest_narrow_l3_se_ok (K : Nat) (R : Rg) (h : subRB [(11, 12), (107, 119)] R = true) : (digest_narrow_l3_se K).Ok prog R (.block 6 (.loop (cd (bodyOf f37) [1, 0, 0, 1, 0, 0, 1, 1, 1, 0, 1, 0, 0]))) := stmtN_ok (Li := [(0, .ptr), (1, .sl), (4, .addr), (10, .addr), (107, .int .i64)]) (Lo := []) (S := (fun x w => digest_narrow_l3 K K x.1 x.2.1 x.2.2.1 x.2.2.2.1 x.2.2.2.2.1 w)) (digest_narrow_l3_ok K K) (subR_of h)
theorem digest_narrow_l4_ok (K : Nat) (n : Nat) : StmtNOk prog [(0, .ptr), (1, .sl), (4, .addr), (10, .addr), (12, .int .u32), (13, .int .u32), (14, .int .u32), (15, .int .u32), (16, .int .u32), (17, .int .u32), (18, .int .u32), (19, .int .u32), (135, .int .i64)] [(12, .int .u32), (13, .int .u32), (14, .int .u32), (15, .int .u32), (16, .int .u32), (17, .int .u32), (18, .int .u32), (19, .int .u32)] [(12, 24), (135, 201)] ((fun n x w => digest_narrow_l4 K n x.1 x.2.1 x.2.2.1 x.2.2.2.1 x.2.2.2.2.1 x.2.2.2.2.2.1 x.2.2.2.2.2.2.1 x.2.2.2.2.2.2.2.1 x.2.2.2.2.2.2.2.2.1 x.2.2.2.2.2.2.2.2.2.1 x.2.2.2.2.2.2.2.2.2.2.1 x.2.2.2.2.2.2.2.2.2.2.2.1 x.2.2.2.2.2.2.2.2.2.2.2.2.1 w) n) (.block 8 (.loop (cd (bodyOf f37) [1, 0, 0, 1, 0, 0, 1, 1, 1, 1, 1, 0, 1, 0, 0]))) :=
    mk_loopN (O := tabL []) (root := (bodyOf f37)) (π := [1, 0, 0, 1, 0, 0, 1, 1, 1, 1, 1, 0, 1, 0, 0]) (id := 8) (Li := [(0, .ptr), (1, .sl), (4, .addr), (10, .addr), (12, .int .u32), (13, .int .u32), (14, .int .u32), (15, .int .u32), (16, .int .u32), (17, .int .u32), (18, .int .u32), (19, .int .u32), (135, .int .i64)]) (Lo := [(12, .int .u32), (13, .int .u32), (14, .int .u32), (15, .int .u32), (16, .int .u32), (17, .int .u32), (18, .int .u32), (19, .int .u32)]) (S := (fun n x w => digest_narrow_l4 K n x.1 x.2.1 x.2.2.1 x.2.2.2.1 x.2.2.2.2.1 x.2.2.2.2.2.1 x.2.2.2.2.2.2.1 x.2.2.2.2.2.2.2.1 x.2.2.2.2.2.2.2.2.1 x.2.2.2.2.2.2.2.2.2.1 x.2.2.2.2.2.2.2.2.2.2.1 x.2.2.2.2.2.2.2.2.2.2.2.1 x.2.2.2.2.2.2.2.2.2.2.2.2.1 w)) (body := cd (bodyOf f37) [1, 0, 0, 1, 0, 0, 1, 1, 1, 1, 1, 0, 1, 0, 0]) (digest_narrow_Eok K) (digest_narrow_Rok K) rfl (Orc.nil _ _ _) (by kernel_rfl) (fun _ _ => by kernel_rfl) (fun _ _ _ => by kernel_rfl) n
noncomputable def digest_narrow_l4_se (K : Nat) : SE := stmtN [(0, .ptr), (1, .sl), (4, .addr), (10, .addr), (12, .int .u32), (13, .int .u32), (14, .int .u32), (15, .int .u32), (16, .int .u32), (17, .int .u32), (18, .int .u32), (19, .int .u32), (135, .int .i64)] [(12, .int .u32), (13, .int .u32), (14, .int .u32), (15, .int .u32), (16, .int .u32), (17, .int .u32), (18, .int .u32), (19, .int .u32)] [(12, 24), (135, 201)] (fun x w => digest_narrow_l4 K K x.1 x.2.1 x.2.2.1 x.2.2.2.1 x.2.2.2.2.1 x.2.2.2.2.2.1 x.2.2.2.2.2.2.1 x.2.2.2.2.2.2.2.1 x.2.2.2.2.2.2.2.2.1 x.2.2.2.2.2.2.2.2.2.1 x.2.2.2.2.2.2.2.2.2.2.1 x.2.2.2.2.2.2.2.2.2.2.2.1 x.2.2.2.2.2.2.2.2.2.2.2.2.1 w)
theorem digest_narrow_l4_se_ok (K : Nat) (R : Rg) (h : subRB [(12, 24), (135, 201)] R = true) : (digest_narrow_l4_se K).Ok prog R (.block 8 (.loop (cd (bodyOf f37) [1, 0, 0, 1, 0, 0, 1, 1, 1, 1, 1, 0, 1, 0, 0]))) := stmtN_ok (Li := [(0, .ptr), (1, .sl), (4, .addr), (10, .addr), (12, .int .u32), (13, .int .u32), (14, .int .u32), (15, .int .u32), (16, .int .u32), (17, .int .u32), (18, .int .u32), (19, .int .u32), (135, .int .i64)]) (Lo := [(12, .int .u32), (13, .int .u32), (14, .int .u32), (15, .int .u32), (16, .int .u32), (17, .int .u32), (18, .int .u32), (19, .int .u32)]) (S := (fun x w => digest_narrow_l4 K K x.1 x.2.1 x.2.2.1 x.2.2.2.1 x.2.2.2.2.1 x.2.2.2.2.2.1 x.2.2.2.2.2.2.1 x.2.2.2.2.2.2.2.1 x.2.2.2.2.2.2.2.2.1 x.2.2.2.2.2.2.2.2.2.1 x.2.2.2.2.2.2.2.2.2.2.1 x.2.2.2.2.2.2.2.2.2.2.2.1 x.2.2.2.2.2.2.2.2.2.2.2.2.1 w)) (digest_narrow_l4_ok K K) (subR_of h)
theorem digest_narrow_l5_ok (K : Nat) (n : Nat) : StmtNOk prog [(0, .ptr), (1, .sl), (4, .addr), (10, .addr), (209, .agg), (210, .int .i64)] [] [(24, 26), (210, 225)] ((fun n x w => digest_narrow_l5 K n x.1 x.2.1 x.2.2.1 x.2.2.2.1 x.2.2.2.2.1 x.2.2.2.2.2.1 w) n) (.block 10 (.loop (cd (bodyOf f37) [1, 0, 0, 1, 0, 0, 1, 1, 1, 1, 1, 1, 1, 0, 0]))) :=
    mk_loopN (O := tabL []) (root := (bodyOf f37)) (π := [1, 0, 0, 1, 0, 0, 1, 1, 1, 1, 1, 1, 1, 0, 0]) (id := 10) (Li := [(0, .ptr), (1, .sl), (4, .addr), (10, .addr), (209, .agg), (210, .int .i64)]) (Lo := []) (S := (fun n x w => digest_narrow_l5 K n x.1 x.2.1 x.2.2.1 x.2.2.2.1 x.2.2.2.2.1 x.2.2.2.2.2.1 w)) (body := cd (bodyOf f37) [1, 0, 0, 1, 0, 0, 1, 1, 1, 1, 1, 1, 1, 0, 0]) (digest_narrow_Eok K) (digest_narrow_Rok K) rfl (Orc.nil _ _ _) (by kernel_rfl) (fun _ _ => by kernel_rfl) (fun _ _ _ => by kernel_rfl) n
noncomputable def digest_narrow_l5_se (K : Nat) : SE := stmtN [(0, .ptr), (1, .sl), (4, .addr), (10, .addr), (209, .agg), (210, .int .i64)] [] [(24, 26), (210, 225)] (fun x w => digest_narrow_l5 K K x.1 x.2.1 x.2.2.1 x.2.2.2.1 x.2.2.2.2.1 x.2.2.2.2.2.1 w)
theorem digest_narrow_l5_se_ok (K : Nat) (R : Rg) (h : subRB [(24, 26), (210, 225)] R = true) : (digest_narrow_l5_se K).Ok prog R (.block 10 (.loop (cd (bodyOf f37) [1, 0, 0, 1, 0, 0, 1, 1, 1, 1, 1, 1, 1, 0, 0]))) := stmtN_ok (Li := [(0, .ptr), (1, .sl), (4, .addr), (10, .addr), (209, .agg), (210, .int .i64)]) (Lo := []) (S := (fun x w => digest_narrow_l5 K K x.1 x.2.1 x.2.2.1 x.2.2.2.1 x.2.2.2.2.1 x.2.2.2.2.2.1 w)) (digest_narrow_l5_ok K K) (subR_of h)
theorem digest_narrow_l0_ok (K : Nat) (n : Nat) : StmtNOk prog [(0, .ptr), (1, .sl), (4, .addr)] [] [(1, 2), (5, 225)] ((fun n x w => digest_narrow_l0 K n x.1 x.2.1 x.2.2.1 w) n) (.block 0 (.loop (cd (bodyOf f37) [1, 0, 0]))) :=
    mk_loopN (O := tabL [([1, 0, 0, 1, 0, 0, 0, 1], digest_narrow_l1_se K), ([1, 0, 0, 1, 0, 0, 1, 0, 1], digest_narrow_l2_se K), ([1, 0, 0, 1, 0, 0, 1, 1, 1, 0, 1], digest_narrow_l3_se K), ([1, 0, 0, 1, 0, 0, 1, 1, 1, 1, 1, 0, 1], digest_narrow_l4_se K), ([1, 0, 0, 1, 0, 0, 1, 1, 1, 1, 1, 1, 1], digest_narrow_l5_se K)]) (root := (bodyOf f37)) (π := [1, 0, 0]) (id := 0) (Li := [(0, .ptr), (1, .sl), (4, .addr)]) (Lo := []) (S := (fun n x w => digest_narrow_l0 K n x.1 x.2.1 x.2.2.1 w)) (body := cd (bodyOf f37) [1, 0, 0]) (digest_narrow_Eok K) (digest_narrow_Rok K) rfl (Orc.cons (by kernel_rfl) (digest_narrow_l1_se_ok K [(1, 2), (5, 225)] (by kernel_rfl)) (Orc.cons (by kernel_rfl) (digest_narrow_l2_se_ok K [(1, 2), (5, 225)] (by kernel_rfl)) (Orc.cons (by kernel_rfl) (digest_narrow_l3_se_ok K [(1, 2), (5, 225)] (by kernel_rfl)) (Orc.cons (by kernel_rfl) (digest_narrow_l4_se_ok K [(1, 2), (5, 225)] (by kernel_rfl)) (Orc.cons (by kernel_rfl) (digest_narrow_l5_se_ok K [(1, 2), (5, 225)] (by kernel_rfl)) (Orc.nil _ _ _)))))) (by kernel_rfl) (fun _ _ => by kernel_rfl) (fun _ _ _ => by kernel_rfl) n
noncomputable def digest_narrow_l0_se (K : Nat) : SE := stmtN [(0, .ptr), (1, .sl), (4, .addr)] [] [(1, 2), (5, 225)] (fun x w => digest_narrow_l0 K K x.1 x.2.1 x.2.2.1 w)
theorem digest_narrow_l0_se_ok (K : Nat) (R : Rg) (h : subRB [(1, 2), (5, 225)] R = true) : (digest_narrow_l0_se K).Ok prog R (.block 0 (.loop (cd (bodyOf f37) [1, 0, 0]))) := stmtN_ok (Li := [(0, .ptr), (1, .sl), (4, .addr)]) (Lo := []) (S := (fun x w => digest_narrow_l0 K K x.1 x.2.1 x.2.2.1 w)) (digest_narrow_l0_ok K K) (subR_of h)
theorem digest_narrow_facts : FunFacts prog 37 f37 (bodyOf f37) [(0, .ptr), (1, .sl)] [(0, 225)] := ⟨func37, by kernel_rfl, by kernel_rfl, by kernel_rfl, by kernel_rfl, by kernel_rfl⟩
theorem digest_narrow_calls (K : Nat) (x : TT [(0, .ptr), (1, .sl)]) (w : World) (y : TR []) (w2 : World) (h : digest_narrow K x.1 x.2.1 w = some (y, w2)) : Calls prog 37 (encA [(0, .ptr), (1, .sl)] x).toArray w (fun e w3 => e = .returned (resV (encR [] y)) ∧ w3 = w2) :=
    mk_fun (O := tabL [([1], digest_narrow_l0_se K), ([1, 0, 0, 1, 0, 0, 0, 1], digest_narrow_l1_se K), ([1, 0, 0, 1, 0, 0, 1, 0, 1], digest_narrow_l2_se K), ([1, 0, 0, 1, 0, 0, 1, 1, 1, 0, 1], digest_narrow_l3_se K), ([1, 0, 0, 1, 0, 0, 1, 1, 1, 1, 1, 0, 1], digest_narrow_l4_se K), ([1, 0, 0, 1, 0, 0, 1, 1, 1, 1, 1, 1, 1], digest_narrow_l5_se K)]) (Lp := [(0, .ptr), (1, .sl)]) (Rt := []) (S := (fun x w => digest_narrow K x.1 x.2.1 w)) (digest_narrow_Eok K) (digest_narrow_Rok K) rfl digest_narrow_facts (Orc.cons (by kernel_rfl) (digest_narrow_l0_se_ok K [(0, 225)] (by kernel_rfl)) (Orc.cons (by kernel_rfl) (digest_narrow_l1_se_ok K [(0, 225)] (by kernel_rfl)) (Orc.cons (by kernel_rfl) (digest_narrow_l2_se_ok K [(0, 225)] (by kernel_rfl)) (Orc.cons (by kernel_rfl) (digest_narrow_l3_se_ok K [(0, 225)] (by kernel_rfl)) (Orc.cons (by kernel_rfl) (digest_narrow_l4_se_ok K [(0, 225)] (by kernel_rfl)) (Orc.cons (by kernel_rfl) (digest_narrow_l5_se_ok K [(0, 225)] (by kernel_rfl)) (Orc.nil _ _ _))))))) (fun _ _ => by kernel_rfl) x w y w2 h
noncomputable def digest_narrow_ce (K : Nat) : CE := funE [(0, .ptr), (1, .sl)] [] (fun x w => digest_narrow K x.1 x.2.1 w)
theorem digest_narrow_ok (K : Nat) : (digest_narrow_ce K).Ok prog 37 := funE_ok (Rt := []) (S := (fun x w => digest_narrow K x.1 x.2.1 w)) digest_narrow_facts fun x w y w2 h => digest_narrow_calls K x w y w2 h

noncomputable def digest_state_take_E (K : Nat) : List (Nat × CE) := [(37, digest_narrow_ce K), (38, digest_wide_ce K)]
theorem digest_state_take_Eok (K : Nat) : Env.Ok prog (tab (digest_state_take_E K)) := (Env.cons (digest_narrow_ok K) (Env.cons (digest_wide_ok K) (Env.nil _)))
noncomputable def digest_state_take_R (K : Nat) : List (Nat × RE) := []
theorem digest_state_take_Rok (K : Nat) : REnv.Ok prog (tab (digest_state_take_R K)) := (REnv.nil _)
noncomputable def digest_state_take_s0 (K : Nat) (s0 : Option Addr) (b1 : Sl) (at4 : Int) (a30 : Bool) (w : World) : Option ((Out (Sl × Unit) (Unit)) × World) :=
  if a30 = true then ((s0).bind fun p_9 =>
  (s0).bind fun p_10 =>
  (ldI .i64 ((p_10.add 0).add 1) w.drew).bind fun v_11 =>
  if (0 : Int) ≤ v_11 ∧ v_11 ≤ ((128 : Nat) : Int) then (if (0 : Int) ≤ at4 ∧ at4 ≤ (((Int.toNat (v_11)) : Nat) : Int) then (bnd (cpy prog 22 22 (.slice (sla (some (p_9.add 14)) (Int.toNat (at4)) 128 1) ((Int.toNat (v_11)) - (Int.toNat (at4))) (128 - (Int.toNat (at4)))) (.slice b1.a b1.len b1.cap) w.drew) fun s_12 w_13 =>
  if (0 : Int) ≤ s_12 ∧ s_12 ≤ ((b1.len : Nat) : Int) then ((s0).bind fun p_14 =>
  (ldI .i64 ((p_14.add 0).add 1) w_13).bind fun v_15 =>
  if (decide ((IntKind.i64.wrap (at4 + s_12)) < v_15)) = true then (some (.ret (), w_13)) else ((s0).bind fun p_16 =>
  (s0).bind fun p_17 =>
  (s0).bind fun p_18 =>
  (s0).bind fun p_19 =>
  (ldV ((p_16.add 0).add 3) w_13.drew).bind fun v_20 =>
  (ldI .i64 ((p_19.add 0).add 1) w_13.drew).bind fun v_21 =>
  if (0 : Int) ≤ v_21 ∧ v_21 ≤ ((128 : Nat) : Int) then (dyn (tab (digest_state_take_E K)) v_20 [(.pointer (some (p_17.add 6))), (.slice (sla (some (p_18.add 14)) 0 128 1) ((Int.toNat (v_21)) - 0) (128 - 0))] w_13.drew fun v_22 w_23 =>
  some (.norm (⟨(sla b1.a (Int.toNat (s_12)) b1.cap 1), (b1.len - (Int.toNat (s_12))), (b1.cap - (Int.toNat (s_12)))⟩, ()), w_23)) else none)) else none) else none) else none) else (some (.norm (b1, ()), w))
/-- (*coffer/digest.state).take -/
noncomputable def digest_state_take (K : Nat) (s0 : Option Addr) (b1 : Sl) (w : World) : Option ((Unit) × World) :=
  (s0).bind fun p_1 =>
  (s0).bind fun p_2 =>
  (ldI .u64 (p_1.add 5) w.drew).bind fun v_3 =>
  (ldI .i64 ((p_2.add 0).add 1) w.drew).bind fun v_4 =>
  if (IntKind.u64.wrap v_4) ≠ 0 then ((s0).bind fun p_5 =>
  (ldI .u64 (p_5.add 5) w.drew).bind fun v_6 =>
  (s0).bind fun p_7 =>
  (stC (p_7.add 5) (.int .u64 (IntKind.u64.wrap (v_6 + (IntKind.u64.wrap ((b1.len : Nat) : Int))))) w.drew).bind fun w_8 =>
  bnd (digest_state_take_s0 K s0 b1 (IntKind.i64.wrap (Int.tmod v_3 (IntKind.u64.wrap v_4))) (decide ((IntKind.i64.wrap (Int.tmod v_3 (IntKind.u64.wrap v_4))) > 0)) w_8) fun y_24 w_25 =>
  (match y_24 with
  | .norm z_26n => ((s0).bind fun p_27 =>
  (s0).bind fun p_28 =>
  (ldI .i64 ((p_27.add 0).add 1) w_25.drew).bind fun v_29 =>
  if v_29 ≠ 0 then ((ldI .i64 ((p_28.add 0).add 1) w_25.drew).bind fun v_30 =>
  (s0).bind fun p_31 =>
  (s0).bind fun p_32 =>
  if (0 : Int) ≤ (IntKind.i64.wrap ((IntKind.i64.wrap (Int.tdiv ((z_26n.1.len : Nat) : Int) v_29)) * v_30)) ∧ (IntKind.i64.wrap ((IntKind.i64.wrap (Int.tdiv ((z_26n.1.len : Nat) : Int) v_29)) * v_30)) ≤ ((z_26n.1.cap : Nat) : Int) then ((ldV ((p_31.add 0).add 3) w_25.drew.drew).bind fun v_33 =>
  dyn (tab (digest_state_take_E K)) v_33 [(.pointer (some (p_32.add 6))), (.slice (sla z_26n.1.a 0 z_26n.1.cap 1) ((Int.toNat ((IntKind.i64.wrap ((IntKind.i64.wrap (Int.tdiv ((z_26n.1.len : Nat) : Int) v_29)) * v_30)))) - 0) (z_26n.1.cap - 0))] w_25.drew.drew fun v_34 w_35 =>
  (s0).bind fun p_36 =>
  if (0 : Int) ≤ (IntKind.i64.wrap ((IntKind.i64.wrap (Int.tdiv ((z_26n.1.len : Nat) : Int) v_29)) * v_30)) ∧ (IntKind.i64.wrap ((IntKind.i64.wrap (Int.tdiv ((z_26n.1.len : Nat) : Int) v_29)) * v_30)) ≤ ((z_26n.1.len : Nat) : Int) then (bnd (cpy prog 22 22 (.slice (sla (some (p_36.add 14)) 0 128 1) (128 - 0) (128 - 0)) (.slice (sla z_26n.1.a (Int.toNat ((IntKind.i64.wrap ((IntKind.i64.wrap (Int.tdiv ((z_26n.1.len : Nat) : Int) v_29)) * v_30)))) z_26n.1.cap 1) (z_26n.1.len - (Int.toNat ((IntKind.i64.wrap ((IntKind.i64.wrap (Int.tdiv ((z_26n.1.len : Nat) : Int) v_29)) * v_30))))) (z_26n.1.cap - (Int.toNat ((IntKind.i64.wrap ((IntKind.i64.wrap (Int.tdiv ((z_26n.1.len : Nat) : Int) v_29)) * v_30)))))) w_35.drew) fun s_37 w_38 =>
  some ((), w_38)) else none) else none) else none)
  | .ret z_26r => (some ((), w_25)))) else none
theorem digest_state_take_s0_ok (K : Nat) : StmtOk prog [(0, .ptr), (1, .sl), (4, .int .i64), (30, .bool)] [(1, .sl)] [] [(1, 2), (5, 6), (31, 73)] (fun x w => digest_state_take_s0 K x.1 x.2.1 x.2.2.1 x.2.2.2.1 w) (cd (bodyOf f52) [1, 1, 0, 1]) :=
    mk_stmt (O := tabL []) (root := (bodyOf f52)) (π := [1, 1, 0, 1]) (Li := [(0, .ptr), (1, .sl), (4, .int .i64), (30, .bool)]) (Lo := [(1, .sl)]) (Lr := []) (S := (fun x w => digest_state_take_s0 K x.1 x.2.1 x.2.2.1 x.2.2.2.1 w)) (digest_state_take_Eok K) (digest_state_take_Rok K) rfl (Orc.nil _ _ _) (by kernel_rfl) (fun _ _ => by kernel_rfl)
noncomputable def digest_state_take_s0_se (K : Nat) : SE := stmt [(0, .ptr), (1, .sl), (4, .int .i64), (30, .bool)] [(1, .sl)] [] [(1, 2), (5, 6), (31, 73)] (fun x w => digest_state_take_s0 K x.1 x.2.1 x.2.2.1 x.2.2.2.1 w)
theorem digest_state_take_s0_se_ok (K : Nat) (R : Rg) (h : subRB [(1, 2), (5, 6), (31, 73)] R = true) : (digest_state_take_s0_se K).Ok prog R (cd (bodyOf f52) [1, 1, 0, 1]) := stmt_ok (Li := [(0, .ptr), (1, .sl), (4, .int .i64), (30, .bool)]) (Lo := [(1, .sl)]) (Lr := []) (S := (fun x w => digest_state_take_s0 K x.1 x.2.1 x.2.2.1 x.2.2.2.1 w)) (digest_state_take_s0_ok K) (subR_of h)
theorem digest_state_take_facts : FunFacts prog 52 f52 (bodyOf f52) [(0, .ptr), (1, .sl)] [(0, 107)] := ⟨func52, by kernel_rfl, by kernel_rfl, by kernel_rfl, by kernel_rfl, by kernel_rfl⟩
theorem digest_state_take_calls (K : Nat) (x : TT [(0, .ptr), (1, .sl)]) (w : World) (y : TR []) (w2 : World) (h : digest_state_take K x.1 x.2.1 w = some (y, w2)) : Calls prog 52 (encA [(0, .ptr), (1, .sl)] x).toArray w (fun e w3 => e = .returned (resV (encR [] y)) ∧ w3 = w2) :=
    mk_fun (O := tabL [([1, 1, 0, 1], digest_state_take_s0_se K)]) (Lp := [(0, .ptr), (1, .sl)]) (Rt := []) (S := (fun x w => digest_state_take K x.1 x.2.1 w)) (digest_state_take_Eok K) (digest_state_take_Rok K) rfl digest_state_take_facts (Orc.cons (by kernel_rfl) (digest_state_take_s0_se_ok K [(0, 107)] (by kernel_rfl)) (Orc.nil _ _ _)) (fun _ _ => by kernel_rfl) x w y w2 h
noncomputable def digest_state_take_ce (K : Nat) : CE := funE [(0, .ptr), (1, .sl)] [] (fun x w => digest_state_take K x.1 x.2.1 w)
theorem digest_state_take_ok (K : Nat) : (digest_state_take_ce K).Ok prog 52 := funE_ok (Rt := []) (S := (fun x w => digest_state_take K x.1 x.2.1 w)) digest_state_take_facts fun x w y w2 h => digest_state_take_calls K x w y w2 h

noncomputable def digest_Stream_Write_E (K : Nat) : List (Nat × CE) := [(52, digest_state_take_ce K)]
theorem digest_Stream_Write_Eok (K : Nat) : Env.Ok prog (tab (digest_Stream_Write_E K)) := (Env.cons (digest_state_take_ok K) (Env.nil _))
noncomputable def digest_Stream_Write_R (K : Nat) : List (Nat × RE) := [(51, digest_total_re K)]
theorem digest_Stream_Write_Rok (K : Nat) : REnv.Ok prog (tab (digest_Stream_Write_R K)) := (REnv.cons (digest_total_ok K) (REnv.nil _))
noncomputable def digest_Stream_Write_l0_b (K : Nat) (rec : Option Addr → Sl → Int → Int → World → Option ((Unit) × World)) (s0 : Option Addr) (a19 : Sl) (a20 : Int) (a21 : Int) (w : World) : Option ((Unit) × World) :=
  if (decide (a21 < a20)) = true then ((a19.a).bind fun p_4 =>
  if (0 : Int) ≤ a21 ∧ a21 < ((a19.len : Nat) : Int) then ((ldS (p_4.add ((Int.toNat a21) * 1)) w).bind fun v_5 =>
  (s0).bind fun p_6 =>
  bnd (digest_state_take K (some (p_6.add 0)) v_5 w) fun r_7 w_8 =>
  rec s0 a19 a20 (IntKind.i64.wrap (a21 + 1)) w_8) else none) else (some ((), w))
noncomputable def digest_Stream_Write_l0 (K : Nat) (n : Nat) : Option Addr → Sl → Int → Int → World → Option ((Unit) × World) := iter (fun _ _ _ _ _ => none) (digest_Stream_Write_l0_b K) n
/-- (*coffer/digest.Stream).Write -/
noncomputable def digest_Stream_Write (K : Nat) (s0 : Option Addr) (parts1 : Sl) (w : World) : Option ((Int × Unit) × World) :=
  if s0.isNone = true then (some ((1, ()), w)) else ((s0).bind fun p_1 =>
  (ldI .u64 ((p_1.add 0).add 5) w.drew).bind fun v_2 =>
  (digest_total K parts1 w.drew).bind fun r_3 =>
  if (decide ((IntKind.u64.wrap (v_2 + (IntKind.u64.wrap r_3.1))) > 33554432)) = true then (some ((4, ()), w.drew)) else (bnd (digest_Stream_Write_l0 K K s0 parts1 ((parts1.len : Nat) : Int) 0 w.drew) fun y_9 w_10 =>
  some ((0, ()), w_10)))
theorem digest_Stream_Write_l0_ok (K : Nat) (n : Nat) : StmtNOk prog [(0, .ptr), (19, .sl), (20, .int .i64), (21, .int .i64)] [] [(6, 7), (21, 31)] ((fun n x w => digest_Stream_Write_l0 K n x.1 x.2.1 x.2.2.1 x.2.2.2.1 w) n) (.block 0 (.loop (cd (bodyOf f41) [1, 1, 1, 0, 1, 0, 0]))) :=
    mk_loopN (O := tabL []) (root := (bodyOf f41)) (π := [1, 1, 1, 0, 1, 0, 0]) (id := 0) (Li := [(0, .ptr), (19, .sl), (20, .int .i64), (21, .int .i64)]) (Lo := []) (S := (fun n x w => digest_Stream_Write_l0 K n x.1 x.2.1 x.2.2.1 x.2.2.2.1 w)) (body := cd (bodyOf f41) [1, 1, 1, 0, 1, 0, 0]) (digest_Stream_Write_Eok K) (digest_Stream_Write_Rok K) rfl (Orc.nil _ _ _) (by kernel_rfl) (fun _ _ => by kernel_rfl) (fun _ _ _ => by kernel_rfl) n
noncomputable def digest_Stream_Write_l0_se (K : Nat) : SE := stmtN [(0, .ptr), (19, .sl), (20, .int .i64), (21, .int .i64)] [] [(6, 7), (21, 31)] (fun x w => digest_Stream_Write_l0 K K x.1 x.2.1 x.2.2.1 x.2.2.2.1 w)
theorem digest_Stream_Write_l0_se_ok (K : Nat) (R : Rg) (h : subRB [(6, 7), (21, 31)] R = true) : (digest_Stream_Write_l0_se K).Ok prog R (.block 0 (.loop (cd (bodyOf f41) [1, 1, 1, 0, 1, 0, 0]))) := stmtN_ok (Li := [(0, .ptr), (19, .sl), (20, .int .i64), (21, .int .i64)]) (Lo := []) (S := (fun x w => digest_Stream_Write_l0 K K x.1 x.2.1 x.2.2.1 x.2.2.2.1 w)) (digest_Stream_Write_l0_ok K K) (subR_of h)
theorem digest_Stream_Write_facts : FunFacts prog 41 f41 (bodyOf f41) [(0, .ptr), (1, .sl)] [(0, 31)] := ⟨func41, by kernel_rfl, by kernel_rfl, by kernel_rfl, by kernel_rfl, by kernel_rfl⟩
theorem digest_Stream_Write_calls (K : Nat) (x : TT [(0, .ptr), (1, .sl)]) (w : World) (y : TR [.int .i64]) (w2 : World) (h : digest_Stream_Write K x.1 x.2.1 w = some (y, w2)) : Calls prog 41 (encA [(0, .ptr), (1, .sl)] x).toArray w (fun e w3 => e = .returned (resV (encR [.int .i64] y)) ∧ w3 = w2) :=
    mk_fun (O := tabL [([1, 1, 1, 0, 1], digest_Stream_Write_l0_se K)]) (Lp := [(0, .ptr), (1, .sl)]) (Rt := [.int .i64]) (S := (fun x w => digest_Stream_Write K x.1 x.2.1 w)) (digest_Stream_Write_Eok K) (digest_Stream_Write_Rok K) rfl digest_Stream_Write_facts (Orc.cons (by kernel_rfl) (digest_Stream_Write_l0_se_ok K [(0, 31)] (by kernel_rfl)) (Orc.nil _ _ _)) (fun _ _ => by kernel_rfl) x w y w2 h
noncomputable def digest_Stream_Write_ce (K : Nat) : CE := funE [(0, .ptr), (1, .sl)] [.int .i64] (fun x w => digest_Stream_Write K x.1 x.2.1 w)
theorem digest_Stream_Write_ok (K : Nat) : (digest_Stream_Write_ce K).Ok prog 41 := funE_ok (Rt := [.int .i64]) (S := (fun x w => digest_Stream_Write K x.1 x.2.1 w)) digest_Stream_Write_facts fun x w y w2 h => digest_Stream_Write_calls K x w y w2 h

end Go.Sh
