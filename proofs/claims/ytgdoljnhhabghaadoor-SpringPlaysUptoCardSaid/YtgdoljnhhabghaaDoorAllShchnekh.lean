/- Texts of this claim, put together: Sh4, Sh5 -/
import Derived.Test.YtgdoljnhhabghaaDoorAllShbpplah
/- What functions of the program do, as Lean functions; that the machine does just that. Printed by shal.py, a program of this claim's writer. -/
set_option maxRecDepth 100000
set_option linter.unusedVariables false
namespace Go.Sh
open Go.Fw Go.Proofs.Tryd

noncomputable def ref01_first_E (K : Nat) : List (Nat × CE) := []
theorem ref01_first_Eok (K : Nat) : Env.Ok prog (tab (ref01_first_E K)) := (Env.nil _)
noncomputable def ref01_first_R (K : Nat) : List (Nat × RE) := []
theorem ref01_first_Rok (K : Nat) : REnv.Ok prog (tab (ref01_first_R K)) := (REnv.nil _)
noncomputable def ref01_first_l0_b (K : Nat) (rec : Int → Addr → Addr → Int → World → Option ((Unit) × World)) (hash0 : Int) (a2 : Addr) (h3 : Addr) (i4 : Int) (w : World) : Option ((Unit) × World) :=
  if (decide (i4 < 8)) = true then (if (hash0 == 224) = true then (if (0 : Int) ≤ (IntKind.i64.wrap (8 + i4)) ∧ (IntKind.i64.wrap (8 + i4)) < ((16 : Nat) : Int) then ((ldI .u64 ((⟨2, 0, none⟩ : Addr).add ((Int.toNat (IntKind.i64.wrap (8 + i4))) * 1)) w).bind fun v_5 =>
  if (0 : Int) ≤ i4 ∧ i4 < ((8 : Nat) : Int) then ((stC (h3.add ((Int.toNat i4) * 1)) (.int .u64 (Int.tmod v_5 4294967296)) w).bind fun w_6 =>
  rec hash0 a2 h3 (IntKind.i64.wrap (i4 + 1)) w_6) else none) else none) else (if (hash0 == 256) = true then (if (0 : Int) ≤ i4 ∧ i4 < ((16 : Nat) : Int) then ((ldI .u64 ((⟨2, 0, none⟩ : Addr).add ((Int.toNat i4) * 1)) w).bind fun v_7 =>
  if (0 : Int) ≤ i4 ∧ i4 < ((8 : Nat) : Int) then ((stC (h3.add ((Int.toNat i4) * 1)) (.int .u64 (Int.fdiv v_7 (2 ^ 32))) w).bind fun w_8 =>
  rec hash0 a2 h3 (IntKind.i64.wrap (i4 + 1)) w_8) else none) else none) else (if (hash0 == 384) = true then (if (0 : Int) ≤ (IntKind.i64.wrap (8 + i4)) ∧ (IntKind.i64.wrap (8 + i4)) < ((16 : Nat) : Int) then ((ldI .u64 ((⟨2, 0, none⟩ : Addr).add ((Int.toNat (IntKind.i64.wrap (8 + i4))) * 1)) w).bind fun v_9 =>
  if (0 : Int) ≤ i4 ∧ i4 < ((8 : Nat) : Int) then ((stC (h3.add ((Int.toNat i4) * 1)) (.int .u64 v_9) w).bind fun w_10 =>
  rec hash0 a2 h3 (IntKind.i64.wrap (i4 + 1)) w_10) else none) else none) else (if (hash0 == 512) = true then (if (0 : Int) ≤ i4 ∧ i4 < ((16 : Nat) : Int) then ((ldI .u64 ((⟨2, 0, none⟩ : Addr).add ((Int.toNat i4) * 1)) w).bind fun v_11 =>
  if (0 : Int) ≤ i4 ∧ i4 < ((8 : Nat) : Int) then ((stC (h3.add ((Int.toNat i4) * 1)) (.int .u64 v_11) w).bind fun w_12 =>
  rec hash0 a2 h3 (IntKind.i64.wrap (i4 + 1)) w_12) else none) else none) else (rec hash0 a2 h3 (IntKind.i64.wrap (i4 + 1)) w))))) else (some ((), w))
noncomputable def ref01_first_l0 (K : Nat) (n : Nat) : Int → Addr → Addr → Int → World → Option ((Unit) × World) := iter (fun _ _ _ _ _ => none) (ref01_first_l0_b K) n
/-- coffer/cofferref01.first -/
noncomputable def ref01_first (K : Nat) (hash0 : Int) (w : World) : Option (((Array Value) × Unit) × World) :=
  bnd (newB z105 105 w) fun p_1 w_2 =>
  bnd (newB z105 105 w_2) fun h_3 w_4 =>
  bnd (ref01_first_l0 K K hash0 p_1 h_3 0 w_4) fun y_13 w_14 =>
  (ldA 8 h_3 w_14).bind fun v_15 =>
  if (v_15).size = 8 then ((stA p_1 v_15 w_14).bind fun w_16 =>
  (ldA 8 p_1 w_16).bind fun res_17 =>
  some ((res_17, ()), w_16)) else none
theorem ref01_first_l0_ok (K : Nat) (n : Nat) : StmtNOk prog [(0, .int .i64), (2, .addr), (3, .addr), (4, .int .i64)] [] [(4, 42)] ((fun n x w => ref01_first_l0 K n x.1 x.2.1 x.2.2.1 x.2.2.2.1 w) n) (.block 0 (.loop (cd (bodyOf f61) [1, 1, 0, 1, 0, 0]))) :=
    mk_loopN (O := tabL []) (root := (bodyOf f61)) (π := [1, 1, 0, 1, 0, 0]) (id := 0) (Li := [(0, .int .i64), (2, .addr), (3, .addr), (4, .int .i64)]) (Lo := []) (S := (fun n x w => ref01_first_l0 K n x.1 x.2.1 x.2.2.1 x.2.2.2.1 w)) (body := cd (bodyOf f61) [1, 1, 0, 1, 0, 0]) (ref01_first_Eok K) (ref01_first_Rok K) rfl (Orc.nil _ _ _) (by kernel_rfl) (fun _ _ => by kernel_rfl) (fun _ _ _ => by kernel_rfl) n
noncomputable def ref01_first_l0_se (K : Nat) : SE := stmtN [(0, .int .i64), (2, .addr), (3, .addr), (4, .int .i64)] [] [(4, 42)] (fun x w => ref01_first_l0 K K x.1 x.2.1 x.2.2.1 x.2.2.2.1 w)
theorem ref01_first_l0_se_ok (K : Nat) (R : Rg) (h : subRB [(4, 42)] R = true) : (ref01_first_l0_se K).Ok prog R (.block 0 (.loop (cd (bodyOf f61) [1, 1, 0, 1, 0, 0]))) := stmtN_ok (Li := [(0, .int .i64), (2, .addr), (3, .addr), (4, .int .i64)]) (Lo := []) (S := (fun x w => ref01_first_l0 K K x.1 x.2.1 x.2.2.1 x.2.2.2.1 w)) (ref01_first_l0_ok K K) (subR_of h)
theorem ref01_first_facts : FunFacts prog 61 f61 (bodyOf f61) [(0, .int .i64)] [(0, 43)] := ⟨func61, by kernel_rfl, by kernel_rfl, by kernel_rfl, by kernel_rfl, by kernel_rfl⟩
theorem ref01_first_calls (K : Nat) (x : TT [(0, .int .i64)]) (w : World) (y : TR [.agg]) (w2 : World) (h : ref01_first K x.1 w = some (y, w2)) : Calls prog 61 (encA [(0, .int .i64)] x).toArray w (fun e w3 => e = .returned (resV (encR [.agg] y)) ∧ w3 = w2) :=
    mk_fun (O := tabL [([1, 1, 0, 1], ref01_first_l0_se K)]) (Lp := [(0, .int .i64)]) (Rt := [.agg]) (S := (fun x w => ref01_first K x.1 w)) (ref01_first_Eok K) (ref01_first_Rok K) rfl ref01_first_facts (Orc.cons (by kernel_rfl) (ref01_first_l0_se_ok K [(0, 43)] (by kernel_rfl)) (Orc.nil _ _ _)) (fun _ _ => by kernel_rfl) x w y w2 h
noncomputable def ref01_first_ce (K : Nat) : CE := funE [(0, .int .i64)] [.agg] (fun x w => ref01_first K x.1 w)
theorem ref01_first_ok (K : Nat) : (ref01_first_ce K).Ok prog 61 := funE_ok (Rt := [.agg]) (S := (fun x w => ref01_first K x.1 w)) ref01_first_facts fun x w y w2 h => ref01_first_calls K x w y w2 h

noncomputable def ref01_laid_E (K : Nat) : List (Nat × CE) := []
theorem ref01_laid_Eok (K : Nat) : Env.Ok prog (tab (ref01_laid_E K)) := (Env.nil _)
noncomputable def ref01_laid_R (K : Nat) : List (Nat × RE) := []
theorem ref01_laid_Rok (K : Nat) : REnv.Ok prog (tab (ref01_laid_R K)) := (REnv.nil _)
noncomputable def ref01_laid_l0_b (K : Nat) (rec : Sl → Int → Sl → World → Option ((Sl × Unit) × World)) (b0 : Sl) (block1 : Int) (p5 : Sl) (w : World) : Option ((Sl × Unit) × World) :=
  if block1 ≠ 0 then (if ((Int.tmod (IntKind.i64.wrap (((p5.len : Nat) : Int) + (IntKind.i64.wrap (Int.tdiv block1 8)))) block1) != 0) = true then (bnd (bldS prog 22 1 #[(0, (.int .u8 0))] w) fun s_7 w_8 =>
  bnd (apd prog 22 22 (.slice p5.a p5.len p5.cap) (.slice s_7.a s_7.len s_7.cap) w_8) fun s_9 w_10 =>
  rec b0 block1 s_9 w_10) else (some ((p5, ()), w))) else none
noncomputable def ref01_laid_l0 (K : Nat) (n : Nat) : Sl → Int → Sl → World → Option ((Sl × Unit) × World) := iter (fun _ _ _ _ => none) (ref01_laid_l0_b K) n
noncomputable def ref01_laid_l1_b (K : Nat) (rec : Sl → Int → Int → World → Option ((Sl × Unit) × World)) (p5 : Sl) (bits6 : Int) (i7 : Int) (w : World) : Option ((Sl × Unit) × World) :=
  if (decide (i7 ≥ 0)) = true then (if (decide (i7 ≥ 8)) = true then (bnd (bldS prog 22 1 #[(0, (.int .u8 0))] w) fun s_13 w_14 =>
  bnd (apd prog 22 22 (.slice p5.a p5.len p5.cap) (.slice s_13.a s_13.len s_13.cap) w_14) fun s_15 w_16 =>
  rec s_15 bits6 (IntKind.i64.wrap (i7 - 1)) w_16) else (if (0 : Int) ≤ (IntKind.u64.wrap (IntKind.i64.wrap (8 * i7))) then (bnd (bldS prog 22 1 #[(0, (.int .u8 (IntKind.u8.wrap (Int.fdiv bits6 (2 ^ (min (Int.toNat (IntKind.u64.wrap (IntKind.i64.wrap (8 * i7)))) IntKind.u64.bits))))))] w) fun s_17 w_18 =>
  bnd (apd prog 22 22 (.slice p5.a p5.len p5.cap) (.slice s_17.a s_17.len s_17.cap) w_18) fun s_19 w_20 =>
  rec s_19 bits6 (IntKind.i64.wrap (i7 - 1)) w_20) else none)) else (some ((p5, ()), w))
noncomputable def ref01_laid_l1 (K : Nat) (n : Nat) : Sl → Int → Int → World → Option ((Sl × Unit) × World) := iter (fun _ _ _ _ => none) (ref01_laid_l1_b K) n
/-- coffer/cofferref01.laid -/
noncomputable def ref01_laid (K : Nat) (b0 : Sl) (block1 : Int) (w : World) : Option ((Sl × Unit) × World) :=
  bnd (apd prog 22 22 (.slice none 0 0) (.slice b0.a b0.len b0.cap) w) fun s_1 w_2 =>
  bnd (bldS prog 22 1 #[(0, (.int .u8 128))] w_2) fun s_3 w_4 =>
  bnd (apd prog 22 22 (.slice s_1.a s_1.len s_1.cap) (.slice s_3.a s_3.len s_3.cap) w_4) fun s_5 w_6 =>
  bnd (ref01_laid_l0 K K b0 block1 s_5 w_6) fun y_11 w_12 =>
  bnd (ref01_laid_l1 K K y_11.1 (IntKind.u64.wrap ((IntKind.u64.wrap ((b0.len : Nat) : Int)) * 8)) (IntKind.i64.wrap ((IntKind.i64.wrap (Int.tdiv block1 8)) - 1)) w_12) fun y_21 w_22 =>
  some ((y_21.1, ()), w_22)
theorem ref01_laid_l0_ok (K : Nat) (n : Nat) : StmtNOk prog [(0, .sl), (1, .int .i64), (5, .sl)] [(5, .sl)] [(5, 6), (14, 25)] ((fun n x w => ref01_laid_l0 K n x.1 x.2.1 x.2.2.1 w) n) (.block 0 (.loop (cd (bodyOf f62) [1, 1, 1, 1, 0, 0, 0]))) :=
    mk_loopN (O := tabL []) (root := (bodyOf f62)) (π := [1, 1, 1, 1, 0, 0, 0]) (id := 0) (Li := [(0, .sl), (1, .int .i64), (5, .sl)]) (Lo := [(5, .sl)]) (S := (fun n x w => ref01_laid_l0 K n x.1 x.2.1 x.2.2.1 w)) (body := cd (bodyOf f62) [1, 1, 1, 1, 0, 0, 0]) (ref01_laid_Eok K) (ref01_laid_Rok K) rfl (Orc.nil _ _ _) (by kernel_rfl) (fun _ _ => by kernel_rfl) (fun _ _ _ => by kernel_rfl) n
noncomputable def ref01_laid_l0_se (K : Nat) : SE := stmtN [(0, .sl), (1, .int .i64), (5, .sl)] [(5, .sl)] [(5, 6), (14, 25)] (fun x w => ref01_laid_l0 K K x.1 x.2.1 x.2.2.1 w)
theorem ref01_laid_l0_se_ok (K : Nat) (R : Rg) (h : subRB [(5, 6), (14, 25)] R = true) : (ref01_laid_l0_se K).Ok prog R (.block 0 (.loop (cd (bodyOf f62) [1, 1, 1, 1, 0, 0, 0]))) := stmtN_ok (Li := [(0, .sl), (1, .int .i64), (5, .sl)]) (Lo := [(5, .sl)]) (S := (fun x w => ref01_laid_l0 K K x.1 x.2.1 x.2.2.1 w)) (ref01_laid_l0_ok K K) (subR_of h)
theorem ref01_laid_l1_ok (K : Nat) (n : Nat) : StmtNOk prog [(5, .sl), (6, .int .u64), (7, .int .i64)] [(5, .sl)] [(5, 6), (7, 8), (32, 50)] ((fun n x w => ref01_laid_l1 K n x.1 x.2.1 x.2.2.1 w) n) (.block 2 (.loop (cd (bodyOf f62) [1, 1, 1, 1, 1, 1, 0, 1, 0, 0]))) :=
    mk_loopN (O := tabL []) (root := (bodyOf f62)) (π := [1, 1, 1, 1, 1, 1, 0, 1, 0, 0]) (id := 2) (Li := [(5, .sl), (6, .int .u64), (7, .int .i64)]) (Lo := [(5, .sl)]) (S := (fun n x w => ref01_laid_l1 K n x.1 x.2.1 x.2.2.1 w)) (body := cd (bodyOf f62) [1, 1, 1, 1, 1, 1, 0, 1, 0, 0]) (ref01_laid_Eok K) (ref01_laid_Rok K) rfl (Orc.nil _ _ _) (by kernel_rfl) (fun _ _ => by kernel_rfl) (fun _ _ _ => by kernel_rfl) n
noncomputable def ref01_laid_l1_se (K : Nat) : SE := stmtN [(5, .sl), (6, .int .u64), (7, .int .i64)] [(5, .sl)] [(5, 6), (7, 8), (32, 50)] (fun x w => ref01_laid_l1 K K x.1 x.2.1 x.2.2.1 w)
theorem ref01_laid_l1_se_ok (K : Nat) (R : Rg) (h : subRB [(5, 6), (7, 8), (32, 50)] R = true) : (ref01_laid_l1_se K).Ok prog R (.block 2 (.loop (cd (bodyOf f62) [1, 1, 1, 1, 1, 1, 0, 1, 0, 0]))) := stmtN_ok (Li := [(5, .sl), (6, .int .u64), (7, .int .i64)]) (Lo := [(5, .sl)]) (S := (fun x w => ref01_laid_l1 K K x.1 x.2.1 x.2.2.1 w)) (ref01_laid_l1_ok K K) (subR_of h)
theorem ref01_laid_facts : FunFacts prog 62 f62 (bodyOf f62) [(0, .sl), (1, .int .i64)] [(0, 51)] := ⟨func62, by kernel_rfl, by kernel_rfl, by kernel_rfl, by kernel_rfl, by kernel_rfl⟩
theorem ref01_laid_calls (K : Nat) (x : TT [(0, .sl), (1, .int .i64)]) (w : World) (y : TR [.sl]) (w2 : World) (h : ref01_laid K x.1 x.2.1 w = some (y, w2)) : Calls prog 62 (encA [(0, .sl), (1, .int .i64)] x).toArray w (fun e w3 => e = .returned (resV (encR [.sl] y)) ∧ w3 = w2) :=
    mk_fun (O := tabL [([1, 1, 1, 1, 0], ref01_laid_l0_se K), ([1, 1, 1, 1, 1, 1, 0, 1], ref01_laid_l1_se K)]) (Lp := [(0, .sl), (1, .int .i64)]) (Rt := [.sl]) (S := (fun x w => ref01_laid K x.1 x.2.1 w)) (ref01_laid_Eok K) (ref01_laid_Rok K) rfl ref01_laid_facts (Orc.cons (by kernel_rfl) (ref01_laid_l0_se_ok K [(0, 51)] (by kernel_rfl)) (Orc.cons (by kernel_rfl) (ref01_laid_l1_se_ok K [(0, 51)] (by kernel_rfl)) (Orc.nil _ _ _))) (fun _ _ => by kernel_rfl) x w y w2 h
noncomputable def ref01_laid_ce (K : Nat) : CE := funE [(0, .sl), (1, .int .i64)] [.sl] (fun x w => ref01_laid K x.1 x.2.1 w)
theorem ref01_laid_ok (K : Nat) : (ref01_laid_ce K).Ok prog 62 := funE_ok (Rt := [.sl]) (S := (fun x w => ref01_laid K x.1 x.2.1 w)) ref01_laid_facts fun x w y w2 h => ref01_laid_calls K x w y w2 h

noncomputable def ref01_taken32_E (K : Nat) : List (Nat × CE) := []
theorem ref01_taken32_Eok (K : Nat) : Env.Ok prog (tab (ref01_taken32_E K)) := (Env.nil _)
noncomputable def ref01_taken32_R (K : Nat) : List (Nat × RE) := []
theorem ref01_taken32_Rok (K : Nat) : REnv.Ok prog (tab (ref01_taken32_R K)) := (REnv.nil _)
noncomputable def ref01_taken32_l0_b (K : Nat) (rec : Sl → Addr → Addr → Addr → Addr → Int → World → Option ((Unit) × World)) (block1 : Sl) (h3 : Addr) (k5 : Addr) (a6 : Addr) (w7 : Addr) (t8 : Int) (w : World) : Option ((Unit) × World) :=
  if (decide (t8 < 16)) = true then ((block1.a).bind fun p_9 =>
  if (0 : Int) ≤ (IntKind.i64.wrap (4 * t8)) ∧ (IntKind.i64.wrap (4 * t8)) < ((block1.len : Nat) : Int) then ((block1.a).bind fun p_10 =>
  if (0 : Int) ≤ (IntKind.i64.wrap ((IntKind.i64.wrap (4 * t8)) + 1)) ∧ (IntKind.i64.wrap ((IntKind.i64.wrap (4 * t8)) + 1)) < ((block1.len : Nat) : Int) then ((block1.a).bind fun p_11 =>
  if (0 : Int) ≤ (IntKind.i64.wrap ((IntKind.i64.wrap (4 * t8)) + 2)) ∧ (IntKind.i64.wrap ((IntKind.i64.wrap (4 * t8)) + 2)) < ((block1.len : Nat) : Int) then ((block1.a).bind fun p_12 =>
  if (0 : Int) ≤ (IntKind.i64.wrap ((IntKind.i64.wrap (4 * t8)) + 3)) ∧ (IntKind.i64.wrap ((IntKind.i64.wrap (4 * t8)) + 3)) < ((block1.len : Nat) : Int) then ((ldI .u8 (p_9.add ((Int.toNat (IntKind.i64.wrap (4 * t8))) * 1)) w.drew).bind fun v_13 =>
  (ldI .u8 (p_10.add ((Int.toNat (IntKind.i64.wrap ((IntKind.i64.wrap (4 * t8)) + 1))) * 1)) w.drew).bind fun v_14 =>
  (ldI .u8 (p_11.add ((Int.toNat (IntKind.i64.wrap ((IntKind.i64.wrap (4 * t8)) + 2))) * 1)) w.drew).bind fun v_15 =>
  (ldI .u8 (p_12.add ((Int.toNat (IntKind.i64.wrap ((IntKind.i64.wrap (4 * t8)) + 3))) * 1)) w.drew).bind fun v_16 =>
  if (0 : Int) ≤ t8 ∧ t8 < ((64 : Nat) : Int) then ((stC (w7.add ((Int.toNat t8) * 1)) (.int .u32 (bits .or .u32 (bits .or .u32 (bits .or .u32 (IntKind.u32.wrap ((IntKind.u32.wrap v_13) * 2 ^ 24)) (IntKind.u32.wrap ((IntKind.u32.wrap v_14) * 2 ^ 16))) (IntKind.u32.wrap ((IntKind.u32.wrap v_15) * 2 ^ 8))) (IntKind.u32.wrap v_16))) w.drew).bind fun w_17 =>
  rec block1 h3 k5 a6 w7 (IntKind.i64.wrap (t8 + 1)) w_17) else none) else none) else none) else none) else none) else (some ((), w))
noncomputable def ref01_taken32_l0 (K : Nat) (n : Nat) : Sl → Addr → Addr → Addr → Addr → Int → World → Option ((Unit) × World) := iter (fun _ _ _ _ _ _ _ => none) (ref01_taken32_l0_b K) n
noncomputable def ref01_taken32_l1_b (K : Nat) (rec : Addr → Addr → Addr → Addr → Int → World → Option ((Unit) × World)) (h3 : Addr) (k5 : Addr) (a6 : Addr) (w7 : Addr) (t9 : Int) (w : World) : Option ((Unit) × World) :=
  if (decide (t9 < 64)) = true then (if (0 : Int) ≤ (IntKind.i64.wrap (t9 - 15)) ∧ (IntKind.i64.wrap (t9 - 15)) < ((64 : Nat) : Int) then ((ldI .u32 (w7.add ((Int.toNat (IntKind.i64.wrap (t9 - 15))) * 1)) w).bind fun v_20 =>
  if (0 : Int) ≤ (IntKind.i64.wrap (t9 - 2)) ∧ (IntKind.i64.wrap (t9 - 2)) < ((64 : Nat) : Int) then ((ldI .u32 (w7.add ((Int.toNat (IntKind.i64.wrap (t9 - 2))) * 1)) w).bind fun v_21 =>
  if (0 : Int) ≤ (IntKind.i64.wrap (t9 - 7)) ∧ (IntKind.i64.wrap (t9 - 7)) < ((64 : Nat) : Int) then (if (0 : Int) ≤ (IntKind.i64.wrap (t9 - 16)) ∧ (IntKind.i64.wrap (t9 - 16)) < ((64 : Nat) : Int) then ((ldI .u32 (w7.add ((Int.toNat (IntKind.i64.wrap (t9 - 7))) * 1)) w.drew).bind fun v_22 =>
  (ldI .u32 (w7.add ((Int.toNat (IntKind.i64.wrap (t9 - 16))) * 1)) w.drew).bind fun v_23 =>
  if (0 : Int) ≤ t9 ∧ t9 < ((64 : Nat) : Int) then ((stC (w7.add ((Int.toNat t9) * 1)) (.int .u32 (IntKind.u32.wrap ((IntKind.u32.wrap ((IntKind.u32.wrap ((bits .xor .u32 (bits .xor .u32 (bits .or .u32 (Int.fdiv v_21 (2 ^ 17)) (IntKind.u32.wrap (v_21 * 2 ^ 15))) (bits .or .u32 (Int.fdiv v_21 (2 ^ 19)) (IntKind.u32.wrap (v_21 * 2 ^ 13)))) (Int.fdiv v_21 (2 ^ 10))) + v_22)) + (bits .xor .u32 (bits .xor .u32 (bits .or .u32 (Int.fdiv v_20 (2 ^ 7)) (IntKind.u32.wrap (v_20 * 2 ^ 25))) (bits .or .u32 (Int.fdiv v_20 (2 ^ 18)) (IntKind.u32.wrap (v_20 * 2 ^ 14)))) (Int.fdiv v_20 (2 ^ 3))))) + v_23))) w.drew).bind fun w_24 =>
  rec h3 k5 a6 w7 (IntKind.i64.wrap (t9 + 1)) w_24) else none) else none) else none) else none) else none) else (some ((), w))
noncomputable def ref01_taken32_l1 (K : Nat) (n : Nat) : Addr → Addr → Addr → Addr → Int → World → Option ((Unit) × World) := iter (fun _ _ _ _ _ _ => none) (ref01_taken32_l1_b K) n
noncomputable def ref01_taken32_l2_b (K : Nat) (rec : Addr → Addr → Addr → Addr → Int → Int → Int → Int → Int → Int → Int → Int → Int → World → Option ((Int × Int × Int × Int × Int × Int × Int × Int × Unit) × World)) (h3 : Addr) (k5 : Addr) (a6 : Addr) (w7 : Addr) (a14 : Int) (b15 : Int) (c16 : Int) (d17 : Int) (e18 : Int) (f19 : Int) (g20 : Int) (z21 : Int) (t22 : Int) (w : World) : Option ((Int × Int × Int × Int × Int × Int × Int × Int × Unit) × World) :=
  if (decide (t22 < 64)) = true then (if (0 : Int) ≤ t22 ∧ t22 < ((64 : Nat) : Int) then (if (0 : Int) ≤ t22 ∧ t22 < ((64 : Nat) : Int) then ((ldI .u32 (k5.add ((Int.toNat t22) * 1)) w.drew).bind fun v_35 =>
  (ldI .u32 (w7.add ((Int.toNat t22) * 1)) w.drew).bind fun v_36 =>
  rec h3 k5 a6 w7 (IntKind.u32.wrap ((IntKind.u32.wrap ((IntKind.u32.wrap ((IntKind.u32.wrap ((IntKind.u32.wrap (z21 + (bits .xor .u32 (bits .xor .u32 (bits .or .u32 (Int.fdiv e18 (2 ^ 6)) (IntKind.u32.wrap (e18 * 2 ^ 26))) (bits .or .u32 (Int.fdiv e18 (2 ^ 11)) (IntKind.u32.wrap (e18 * 2 ^ 21)))) (bits .or .u32 (Int.fdiv e18 (2 ^ 25)) (IntKind.u32.wrap (e18 * 2 ^ 7)))))) + (bits .or .u32 (bits .and .u32 e18 f19) (bits .and .u32 (bits .xor .u32 IntKind.u32.max e18) g20)))) + v_35)) + v_36)) + (IntKind.u32.wrap ((bits .xor .u32 (bits .xor .u32 (bits .or .u32 (Int.fdiv a14 (2 ^ 2)) (IntKind.u32.wrap (a14 * 2 ^ 30))) (bits .or .u32 (Int.fdiv a14 (2 ^ 13)) (IntKind.u32.wrap (a14 * 2 ^ 19)))) (bits .or .u32 (Int.fdiv a14 (2 ^ 22)) (IntKind.u32.wrap (a14 * 2 ^ 10)))) + (bits .or .u32 (bits .or .u32 (bits .and .u32 a14 b15) (bits .and .u32 a14 c16)) (bits .and .u32 b15 c16)))))) a14 b15 c16 (IntKind.u32.wrap (d17 + (IntKind.u32.wrap ((IntKind.u32.wrap ((IntKind.u32.wrap ((IntKind.u32.wrap (z21 + (bits .xor .u32 (bits .xor .u32 (bits .or .u32 (Int.fdiv e18 (2 ^ 6)) (IntKind.u32.wrap (e18 * 2 ^ 26))) (bits .or .u32 (Int.fdiv e18 (2 ^ 11)) (IntKind.u32.wrap (e18 * 2 ^ 21)))) (bits .or .u32 (Int.fdiv e18 (2 ^ 25)) (IntKind.u32.wrap (e18 * 2 ^ 7)))))) + (bits .or .u32 (bits .and .u32 e18 f19) (bits .and .u32 (bits .xor .u32 IntKind.u32.max e18) g20)))) + v_35)) + v_36)))) e18 f19 g20 (IntKind.i64.wrap (t22 + 1)) w.drew) else none) else none) else (some ((a14, b15, c16, d17, e18, f19, g20, z21, ()), w))
noncomputable def ref01_taken32_l2 (K : Nat) (n : Nat) : Addr → Addr → Addr → Addr → Int → Int → Int → Int → Int → Int → Int → Int → Int → World → Option ((Int × Int × Int × Int × Int × Int × Int × Int × Unit) × World) := iter (fun _ _ _ _ _ _ _ _ _ _ _ _ _ _ => none) (ref01_taken32_l2_b K) n
/-- coffer/cofferref01.taken32 -/
noncomputable def ref01_taken32 (K : Nat) (h0 : Array Value) (block1 : Sl) (k2 : Array Value) (w : World) : Option (((Array Value) × Unit) × World) :=
  bnd (newB h0 102 w) fun p_1 w_2 =>
  bnd (newB k2 100 w_2) fun p_3 w_4 =>
  bnd (newB z102 102 w_4) fun p_5 w_6 =>
  bnd (newB z100 100 w_6) fun w_7 w_8 =>
  bnd (ref01_taken32_l0 K K block1 p_1 p_3 p_5 w_7 0 w_8) fun y_18 w_19 =>
  bnd (ref01_taken32_l1 K K p_1 p_3 p_5 w_7 16 w_19) fun y_25 w_26 =>
  (ldI .u32 (p_1.add (0 * 1)) w_26.drew).bind fun v_27 =>
  (ldI .u32 (p_1.add (1 * 1)) w_26.drew).bind fun v_28 =>
  (ldI .u32 (p_1.add (2 * 1)) w_26.drew).bind fun v_29 =>
  (ldI .u32 (p_1.add (3 * 1)) w_26.drew).bind fun v_30 =>
  (ldI .u32 (p_1.add (4 * 1)) w_26.drew.drew).bind fun v_31 =>
  (ldI .u32 (p_1.add (5 * 1)) w_26.drew.drew).bind fun v_32 =>
  (ldI .u32 (p_1.add (6 * 1)) w_26.drew.drew).bind fun v_33 =>
  (ldI .u32 (p_1.add (7 * 1)) w_26.drew.drew).bind fun v_34 =>
  bnd (ref01_taken32_l2 K K p_1 p_3 p_5 w_7 v_27 v_28 v_29 v_30 v_31 v_32 v_33 v_34 0 w_26.drew.drew) fun y_37 w_38 =>
  (ldI .u32 (p_1.add (0 * 1)) w_38).bind fun v_39 =>
  (ldI .u32 (p_1.add (1 * 1)) w_38).bind fun v_40 =>
  (ldI .u32 (p_1.add (2 * 1)) w_38).bind fun v_41 =>
  (ldI .u32 (p_1.add (3 * 1)) w_38).bind fun v_42 =>
  (ldI .u32 (p_1.add (4 * 1)) w_38).bind fun v_43 =>
  (ldI .u32 (p_1.add (5 * 1)) w_38).bind fun v_44 =>
  (ldI .u32 (p_1.add (6 * 1)) w_38).bind fun v_45 =>
  (ldI .u32 (p_1.add (7 * 1)) w_38).bind fun v_46 =>
  (prog.built 102 [(0, (.int .u32 (IntKind.u32.wrap (v_39 + y_37.1)))), (1, (.int .u32 (IntKind.u32.wrap (v_40 + y_37.2.1)))), (2, (.int .u32 (IntKind.u32.wrap (v_41 + y_37.2.2.1)))), (3, (.int .u32 (IntKind.u32.wrap (v_42 + y_37.2.2.2.1)))), (4, (.int .u32 (IntKind.u32.wrap (v_43 + y_37.2.2.2.2.1)))), (5, (.int .u32 (IntKind.u32.wrap (v_44 + y_37.2.2.2.2.2.1)))), (6, (.int .u32 (IntKind.u32.wrap (v_45 + y_37.2.2.2.2.2.2.1)))), (7, (.int .u32 (IntKind.u32.wrap (v_46 + y_37.2.2.2.2.2.2.2.1))))]).bind fun cs_47 =>
  if (cs_47).size = 8 then ((stA p_5 cs_47 w_38).bind fun w_48 =>
  (ldA 8 p_5 w_48).bind fun res_49 =>
  some ((res_49, ()), w_48)) else none
theorem ref01_taken32_l0_ok (K : Nat) (n : Nat) : StmtNOk prog [(1, .sl), (3, .addr), (5, .addr), (6, .addr), (7, .addr), (8, .int .i64)] [] [(8, 9), (27, 66)] ((fun n x w => ref01_taken32_l0 K n x.1 x.2.1 x.2.2.1 x.2.2.2.1 x.2.2.2.2.1 x.2.2.2.2.2.1 w) n) (.block 0 (.loop (cd (bodyOf f67) [1, 1, 0, 1, 0, 0]))) :=
    mk_loopN (O := tabL []) (root := (bodyOf f67)) (π := [1, 1, 0, 1, 0, 0]) (id := 0) (Li := [(1, .sl), (3, .addr), (5, .addr), (6, .addr), (7, .addr), (8, .int .i64)]) (Lo := []) (S := (fun n x w => ref01_taken32_l0 K n x.1 x.2.1 x.2.2.1 x.2.2.2.1 x.2.2.2.2.1 x.2.2.2.2.2.1 w)) (body := cd (bodyOf f67) [1, 1, 0, 1, 0, 0]) (ref01_taken32_Eok K) (ref01_taken32_Rok K) rfl (Orc.nil _ _ _) (by kernel_rfl) (fun _ _ => by kernel_rfl) (fun _ _ _ => by kernel_rfl) n
noncomputable def ref01_taken32_l0_se (K : Nat) : SE := stmtN [(1, .sl), (3, .addr), (5, .addr), (6, .addr), (7, .addr), (8, .int .i64)] [] [(8, 9), (27, 66)] (fun x w => ref01_taken32_l0 K K x.1 x.2.1 x.2.2.1 x.2.2.2.1 x.2.2.2.2.1 x.2.2.2.2.2.1 w)
theorem ref01_taken32_l0_se_ok (K : Nat) (R : Rg) (h : subRB [(8, 9), (27, 66)] R = true) : (ref01_taken32_l0_se K).Ok prog R (.block 0 (.loop (cd (bodyOf f67) [1, 1, 0, 1, 0, 0]))) := stmtN_ok (Li := [(1, .sl), (3, .addr), (5, .addr), (6, .addr), (7, .addr), (8, .int .i64)]) (Lo := []) (S := (fun x w => ref01_taken32_l0 K K x.1 x.2.1 x.2.2.1 x.2.2.2.1 x.2.2.2.2.1 x.2.2.2.2.2.1 w)) (ref01_taken32_l0_ok K K) (subR_of h)
theorem ref01_taken32_l1_ok (K : Nat) (n : Nat) : StmtNOk prog [(3, .addr), (5, .addr), (6, .addr), (7, .addr), (9, .int .i64)] [] [(9, 14), (66, 121)] ((fun n x w => ref01_taken32_l1 K n x.1 x.2.1 x.2.2.1 x.2.2.2.1 x.2.2.2.2.1 w) n) (.block 2 (.loop (cd (bodyOf f67) [1, 1, 1, 0, 1, 0, 0]))) :=
    mk_loopN (O := tabL []) (root := (bodyOf f67)) (π := [1, 1, 1, 0, 1, 0, 0]) (id := 2) (Li := [(3, .addr), (5, .addr), (6, .addr), (7, .addr), (9, .int .i64)]) (Lo := []) (S := (fun n x w => ref01_taken32_l1 K n x.1 x.2.1 x.2.2.1 x.2.2.2.1 x.2.2.2.2.1 w)) (body := cd (bodyOf f67) [1, 1, 1, 0, 1, 0, 0]) (ref01_taken32_Eok K) (ref01_taken32_Rok K) rfl (Orc.nil _ _ _) (by kernel_rfl) (fun _ _ => by kernel_rfl) (fun _ _ _ => by kernel_rfl) n
noncomputable def ref01_taken32_l1_se (K : Nat) : SE := stmtN [(3, .addr), (5, .addr), (6, .addr), (7, .addr), (9, .int .i64)] [] [(9, 14), (66, 121)] (fun x w => ref01_taken32_l1 K K x.1 x.2.1 x.2.2.1 x.2.2.2.1 x.2.2.2.2.1 w)
theorem ref01_taken32_l1_se_ok (K : Nat) (R : Rg) (h : subRB [(9, 14), (66, 121)] R = true) : (ref01_taken32_l1_se K).Ok prog R (.block 2 (.loop (cd (bodyOf f67) [1, 1, 1, 0, 1, 0, 0]))) := stmtN_ok (Li := [(3, .addr), (5, .addr), (6, .addr), (7, .addr), (9, .int .i64)]) (Lo := []) (S := (fun x w => ref01_taken32_l1 K K x.1 x.2.1 x.2.2.1 x.2.2.2.1 x.2.2.2.2.1 w)) (ref01_taken32_l1_ok K K) (subR_of h)
theorem ref01_taken32_l2_ok (K : Nat) (n : Nat) : StmtNOk prog [(3, .addr), (5, .addr), (6, .addr), (7, .addr), (14, .int .u32), (15, .int .u32), (16, .int .u32), (17, .int .u32), (18, .int .u32), (19, .int .u32), (20, .int .u32), (21, .int .u32), (22, .int .i64)] [(14, .int .u32), (15, .int .u32), (16, .int .u32), (17, .int .u32), (18, .int .u32), (19, .int .u32), (20, .int .u32), (21, .int .u32)] [(14, 27), (137, 220)] ((fun n x w => ref01_taken32_l2 K n x.1 x.2.1 x.2.2.1 x.2.2.2.1 x.2.2.2.2.1 x.2.2.2.2.2.1 x.2.2.2.2.2.2.1 x.2.2.2.2.2.2.2.1 x.2.2.2.2.2.2.2.2.1 x.2.2.2.2.2.2.2.2.2.1 x.2.2.2.2.2.2.2.2.2.2.1 x.2.2.2.2.2.2.2.2.2.2.2.1 x.2.2.2.2.2.2.2.2.2.2.2.2.1 w) n) (.block 4 (.loop (cd (bodyOf f67) [1, 1, 1, 1, 1, 1, 0, 1, 0, 0]))) :=
    mk_loopN (O := tabL []) (root := (bodyOf f67)) (π := [1, 1, 1, 1, 1, 1, 0, 1, 0, 0]) (id := 4) (Li := [(3, .addr), (5, .addr), (6, .addr), (7, .addr), (14, .int .u32), (15, .int .u32), (16, .int .u32), (17, .int .u32), (18, .int .u32), (19, .int .u32), (20, .int .u32), (21, .int .u32), (22, .int .i64)]) (Lo := [(14, .int .u32), (15, .int .u32), (16, .int .u32), (17, .int .u32), (18, .int .u32), (19, .int .u32), (20, .int .u32), (21, .int .u32)]) (S := (fun n x w => ref01_taken32_l2 K n x.1 x.2.1 x.2.2.1 x.2.2.2.1 x.2.2.2.2.1 x.2.2.2.2.2.1 x.2.2.2.2.2.2.1 x.2.2.2.2.2.2.2.1 x.2.2.2.2.2.2.2.2.1 x.2.2.2.2.2.2.2.2.2.1 x.2.2.2.2.2.2.2.2.2.2.1 x.2.2.2.2.2.2.2.2.2.2.2.1 x.2.2.2.2.2.2.2.2.2.2.2.2.1 w)) (body := cd (bodyOf f67) [1, 1, 1, 1, 1, 1, 0, 1, 0, 0]) (ref01_taken32_Eok K) (ref01_taken32_Rok K) rfl (Orc.nil _ _ _) (by kernel_rfl) (fun _ _ => by kernel_rfl) (fun _ _ _ => by kernel_rfl) n
noncomputable def ref01_taken32_l2_se (K : Nat) : SE := stmtN [(3, .addr), (5, .addr), (6, .addr), (7, .addr), (14, .int .u32), (15, .int .u32), (16, .int .u32), (17, .int .u32), (18, .int .u32), (19, .int .u32), (20, .int .u32), (21, .int .u32), (22, .int .i64)] [(14, .int .u32), (15, .int .u32), (16, .int .u32), (17, .int .u32), (18, .int .u32), (19, .int .u32), (20, .int .u32), (21, .int .u32)] [(14, 27), (137, 220)] (fun x w => ref01_taken32_l2 K K x.1 x.2.1 x.2.2.1 x.2.2.2.1 x.2.2.2.2.1 x.2.2.2.2.2.1 x.2.2.2.2.2.2.1 x.2.2.2.2.2.2.2.1 x.2.2.2.2.2.2.2.2.1 x.2.2.2.2.2.2.2.2.2.1 x.2.2.2.2.2.2.2.2.2.2.1 x.2.2.2.2.2.2.2.2.2.2.2.1 x.2.2.2.2.2.2.2.2.2.2.2.2.1 w)
theorem ref01_taken32_l2_se_ok (K : Nat) (R : Rg) (h : subRB [(14, 27), (137, 220)] R = true) : (ref01_taken32_l2_se K).Ok prog R (.block 4 (.loop (cd (bodyOf f67) [1, 1, 1, 1, 1, 1, 0, 1, 0, 0]))) := stmtN_ok (Li := [(3, .addr), (5, .addr), (6, .addr), (7, .addr), (14, .int .u32), (15, .int .u32), (16, .int .u32), (17, .int .u32), (18, .int .u32), (19, .int .u32), (20, .int .u32), (21, .int .u32), (22, .int .i64)]) (Lo := [(14, .int .u32), (15, .int .u32), (16, .int .u32), (17, .int .u32), (18, .int .u32), (19, .int .u32), (20, .int .u32), (21, .int .u32)]) (S := (fun x w => ref01_taken32_l2 K K x.1 x.2.1 x.2.2.1 x.2.2.2.1 x.2.2.2.2.1 x.2.2.2.2.2.1 x.2.2.2.2.2.2.1 x.2.2.2.2.2.2.2.1 x.2.2.2.2.2.2.2.2.1 x.2.2.2.2.2.2.2.2.2.1 x.2.2.2.2.2.2.2.2.2.2.1 x.2.2.2.2.2.2.2.2.2.2.2.1 x.2.2.2.2.2.2.2.2.2.2.2.2.1 w)) (ref01_taken32_l2_ok K K) (subR_of h)
theorem ref01_taken32_facts : FunFacts prog 67 f67 (bodyOf f67) [(0, .agg), (1, .sl), (2, .agg)] [(0, 253)] := ⟨func67, by kernel_rfl, by kernel_rfl, by kernel_rfl, by kernel_rfl, by kernel_rfl⟩
theorem ref01_taken32_calls (K : Nat) (x : TT [(0, .agg), (1, .sl), (2, .agg)]) (w : World) (y : TR [.agg]) (w2 : World) (h : ref01_taken32 K x.1 x.2.1 x.2.2.1 w = some (y, w2)) : Calls prog 67 (encA [(0, .agg), (1, .sl), (2, .agg)] x).toArray w (fun e w3 => e = .returned (resV (encR [.agg] y)) ∧ w3 = w2) :=
    mk_fun (O := tabL [([1, 1, 0, 1], ref01_taken32_l0_se K), ([1, 1, 1, 0, 1], ref01_taken32_l1_se K), ([1, 1, 1, 1, 1, 1, 0, 1], ref01_taken32_l2_se K)]) (Lp := [(0, .agg), (1, .sl), (2, .agg)]) (Rt := [.agg]) (S := (fun x w => ref01_taken32 K x.1 x.2.1 x.2.2.1 w)) (ref01_taken32_Eok K) (ref01_taken32_Rok K) rfl ref01_taken32_facts (Orc.cons (by kernel_rfl) (ref01_taken32_l0_se_ok K [(0, 253)] (by kernel_rfl)) (Orc.cons (by kernel_rfl) (ref01_taken32_l1_se_ok K [(0, 253)] (by kernel_rfl)) (Orc.cons (by kernel_rfl) (ref01_taken32_l2_se_ok K [(0, 253)] (by kernel_rfl)) (Orc.nil _ _ _)))) (fun _ _ => by kernel_rfl) x w y w2 h
noncomputable def ref01_taken32_ce (K : Nat) : CE := funE [(0, .agg), (1, .sl), (2, .agg)] [.agg] (fun x w => ref01_taken32 K x.1 x.2.1 x.2.2.1 w)
theorem ref01_taken32_ok (K : Nat) : (ref01_taken32_ce K).Ok prog 67 := funE_ok (Rt := [.agg]) (S := (fun x w => ref01_taken32 K x.1 x.2.1 x.2.2.1 w)) ref01_taken32_facts fun x w y w2 h => ref01_taken32_calls K x w y w2 h

noncomputable def ref01_narrow_E (K : Nat) : List (Nat × CE) := [(67, ref01_taken32_ce K)]
theorem ref01_narrow_Eok (K : Nat) : Env.Ok prog (tab (ref01_narrow_E K)) := (Env.cons (ref01_taken32_ok K) (Env.nil _))
noncomputable def ref01_narrow_R (K : Nat) : List (Nat × RE) := []
theorem ref01_narrow_Rok (K : Nat) : REnv.Ok prog (tab (ref01_narrow_R K)) := (REnv.nil _)
noncomputable def ref01_narrow_l0_b (K : Nat) (rec : Sl → Addr → Addr → Addr → Int → World → Option ((Unit) × World)) (p1 : Sl) (h2 : Addr) (a4 : Addr) (k5 : Addr) (t6 : Int) (w : World) : Option ((Unit) × World) :=
  if (decide (t6 < 64)) = true then (if (0 : Int) ≤ t6 ∧ t6 < ((80 : Nat) : Int) then ((ldI .u64 ((⟨3, 0, none⟩ : Addr).add ((Int.toNat t6) * 1)) w).bind fun v_7 =>
  if (0 : Int) ≤ t6 ∧ t6 < ((64 : Nat) : Int) then ((stC (k5.add ((Int.toNat t6) * 1)) (.int .u32 (IntKind.u32.wrap (Int.fdiv v_7 (2 ^ 32)))) w).bind fun w_8 =>
  rec p1 h2 a4 k5 (IntKind.i64.wrap (t6 + 1)) w_8) else none) else none) else (some ((), w))
noncomputable def ref01_narrow_l0 (K : Nat) (n : Nat) : Sl → Addr → Addr → Addr → Int → World → Option ((Unit) × World) := iter (fun _ _ _ _ _ _ => none) (ref01_narrow_l0_b K) n
noncomputable def ref01_narrow_l1_b (K : Nat) (rec : Sl → Addr → Addr → Addr → Addr → Int → World → Option ((Unit) × World)) (p1 : Sl) (h2 : Addr) (a4 : Addr) (k5 : Addr) (v7 : Addr) (i8 : Int) (w : World) : Option ((Unit) × World) :=
  if (decide (i8 < 8)) = true then (if (0 : Int) ≤ i8 ∧ i8 < ((8 : Nat) : Int) then ((ldI .u64 (h2.add ((Int.toNat i8) * 1)) w).bind fun v_13 =>
  if (0 : Int) ≤ i8 ∧ i8 < ((8 : Nat) : Int) then ((stC (v7.add ((Int.toNat i8) * 1)) (.int .u32 (IntKind.u32.wrap v_13)) w).bind fun w_14 =>
  rec p1 h2 a4 k5 v7 (IntKind.i64.wrap (i8 + 1)) w_14) else none) else none) else (some ((), w))
noncomputable def ref01_narrow_l1 (K : Nat) (n : Nat) : Sl → Addr → Addr → Addr → Addr → Int → World → Option ((Unit) × World) := iter (fun _ _ _ _ _ _ _ => none) (ref01_narrow_l1_b K) n
noncomputable def ref01_narrow_l2_b (K : Nat) (rec : Sl → Addr → Addr → Addr → Addr → Int → World → Option ((Unit) × World)) (p1 : Sl) (h2 : Addr) (a4 : Addr) (k5 : Addr) (v7 : Addr) (i9 : Int) (w : World) : Option ((Unit) × World) :=
  if (decide (i9 < ((p1.len : Nat) : Int))) = true then (if (0 : Int) ≤ (IntKind.i64.wrap (i9 + 64)) ∧ (IntKind.i64.wrap (i9 + 64)) ≤ ((p1.cap : Nat) : Int) then (if (0 : Int) ≤ i9 ∧ i9 ≤ (((Int.toNat ((IntKind.i64.wrap (i9 + 64)))) : Nat) : Int) then ((ldA 8 v7 w.drew).bind fun v_17 =>
  (ldA 64 k5 w.drew).bind fun v_18 =>
  bnd (ref01_taken32 K v_17 ⟨(sla p1.a (Int.toNat (i9)) p1.cap 1), ((Int.toNat ((IntKind.i64.wrap (i9 + 64)))) - (Int.toNat (i9))), (p1.cap - (Int.toNat (i9)))⟩ v_18 w.drew) fun r_19 w_20 =>
  if (r_19.1).size = 8 then ((stA v7 r_19.1 w_20).bind fun w_21 =>
  rec p1 h2 a4 k5 v7 (IntKind.i64.wrap (i9 + 64)) w_21) else none) else none) else none) else (some ((), w))
noncomputable def ref01_narrow_l2 (K : Nat) (n : Nat) : Sl → Addr → Addr → Addr → Addr → Int → World → Option ((Unit) × World) := iter (fun _ _ _ _ _ _ _ => none) (ref01_narrow_l2_b K) n
noncomputable def ref01_narrow_l3_b (K : Nat) (rec : Addr → Addr → Addr → Int → World → Option ((Unit) × World)) (h2 : Addr) (a4 : Addr) (v7 : Addr) (i10 : Int) (w : World) : Option ((Unit) × World) :=
  if (decide (i10 < 8)) = true then (if (0 : Int) ≤ i10 ∧ i10 < ((8 : Nat) : Int) then ((ldI .u32 (v7.add ((Int.toNat i10) * 1)) w).bind fun v_24 =>
  if (0 : Int) ≤ i10 ∧ i10 < ((8 : Nat) : Int) then ((stC (h2.add ((Int.toNat i10) * 1)) (.int .u64 (IntKind.u64.wrap v_24)) w).bind fun w_25 =>
  rec h2 a4 v7 (IntKind.i64.wrap (i10 + 1)) w_25) else none) else none) else (some ((), w))
noncomputable def ref01_narrow_l3 (K : Nat) (n : Nat) : Addr → Addr → Addr → Int → World → Option ((Unit) × World) := iter (fun _ _ _ _ _ => none) (ref01_narrow_l3_b K) n
/-- coffer/cofferref01.narrow -/
noncomputable def ref01_narrow (K : Nat) (h0 : Array Value) (p1 : Sl) (w : World) : Option (((Array Value) × Unit) × World) :=
  bnd (newB h0 105 w) fun p_1 w_2 =>
  bnd (newB z105 105 w_2) fun p_3 w_4 =>
  bnd (newB z100 100 w_4) fun k_5 w_6 =>
  bnd (ref01_narrow_l0 K K p1 p_1 p_3 k_5 0 w_6) fun y_9 w_10 =>
  bnd (newB z102 102 w_10) fun v_11 w_12 =>
  bnd (ref01_narrow_l1 K K p1 p_1 p_3 k_5 v_11 0 w_12) fun y_15 w_16 =>
  bnd (ref01_narrow_l2 K K p1 p_1 p_3 k_5 v_11 0 w_16) fun y_22 w_23 =>
  bnd (ref01_narrow_l3 K K p_1 p_3 v_11 0 w_23) fun y_26 w_27 =>
  (ldA 8 p_1 w_27).bind fun v_28 =>
  if (v_28).size = 8 then ((stA p_3 v_28 w_27).bind fun w_29 =>
  (ldA 8 p_3 w_29).bind fun res_30 =>
  some ((res_30, ()), w_29)) else none
theorem ref01_narrow_l0_ok (K : Nat) (n : Nat) : StmtNOk prog [(1, .sl), (2, .addr), (4, .addr), (5, .addr), (6, .int .i64)] [] [(6, 7), (11, 22)] ((fun n x w => ref01_narrow_l0 K n x.1 x.2.1 x.2.2.1 x.2.2.2.1 x.2.2.2.2.1 w) n) (.block 0 (.loop (cd (bodyOf f63) [1, 1, 0, 1, 0, 0]))) :=
    mk_loopN (O := tabL []) (root := (bodyOf f63)) (π := [1, 1, 0, 1, 0, 0]) (id := 0) (Li := [(1, .sl), (2, .addr), (4, .addr), (5, .addr), (6, .int .i64)]) (Lo := []) (S := (fun n x w => ref01_narrow_l0 K n x.1 x.2.1 x.2.2.1 x.2.2.2.1 x.2.2.2.2.1 w)) (body := cd (bodyOf f63) [1, 1, 0, 1, 0, 0]) (ref01_narrow_Eok K) (ref01_narrow_Rok K) rfl (Orc.nil _ _ _) (by kernel_rfl) (fun _ _ => by kernel_rfl) (fun _ _ _ => by kernel_rfl) n
noncomputable def ref01_narrow_l0_se (K : Nat) : SE := stmtN [(1, .sl), (2, .addr), (4, .addr), (5, .addr), (6, .int .i64)] [] [(6, 7), (11, 22)] (fun x w => ref01_narrow_l0 K K x.1 x.2.1 x.2.2.1 x.2.2.2.1 x.2.2.2.2.1 w)
theorem ref01_narrow_l0_se_ok (K : Nat) (R : Rg) (h : subRB [(6, 7), (11, 22)] R = true) : (ref01_narrow_l0_se K).Ok prog R (.block 0 (.loop (cd (bodyOf f63) [1, 1, 0, 1, 0, 0]))) := stmtN_ok (Li := [(1, .sl), (2, .addr), (4, .addr), (5, .addr), (6, .int .i64)]) (Lo := []) (S := (fun x w => ref01_narrow_l0 K K x.1 x.2.1 x.2.2.1 x.2.2.2.1 x.2.2.2.2.1 w)) (ref01_narrow_l0_ok K K) (subR_of h)
theorem ref01_narrow_l1_ok (K : Nat) (n : Nat) : StmtNOk prog [(1, .sl), (2, .addr), (4, .addr), (5, .addr), (7, .addr), (8, .int .i64)] [] [(8, 9), (22, 32)] ((fun n x w => ref01_narrow_l1 K n x.1 x.2.1 x.2.2.1 x.2.2.2.1 x.2.2.2.2.1 x.2.2.2.2.2.1 w) n) (.block 2 (.loop (cd (bodyOf f63) [1, 1, 1, 1, 0, 1, 0, 0]))) :=
    mk_loopN (O := tabL []) (root := (bodyOf f63)) (π := [1, 1, 1, 1, 0, 1, 0, 0]) (id := 2) (Li := [(1, .sl), (2, .addr), (4, .addr), (5, .addr), (7, .addr), (8, .int .i64)]) (Lo := []) (S := (fun n x w => ref01_narrow_l1 K n x.1 x.2.1 x.2.2.1 x.2.2.2.1 x.2.2.2.2.1 x.2.2.2.2.2.1 w)) (body := cd (bodyOf f63) [1, 1, 1, 1, 0, 1, 0, 0]) (ref01_narrow_Eok K) (ref01_narrow_Rok K) rfl (Orc.nil _ _ _) (by kernel_rfl) (fun _ _ => by kernel_rfl) (fun _ _ _ => by kernel_rfl) n
noncomputable def ref01_narrow_l1_se (K : Nat) : SE := stmtN [(1, .sl), (2, .addr), (4, .addr), (5, .addr), (7, .addr), (8, .int .i64)] [] [(8, 9), (22, 32)] (fun x w => ref01_narrow_l1 K K x.1 x.2.1 x.2.2.1 x.2.2.2.1 x.2.2.2.2.1 x.2.2.2.2.2.1 w)
theorem ref01_narrow_l1_se_ok (K : Nat) (R : Rg) (h : subRB [(8, 9), (22, 32)] R = true) : (ref01_narrow_l1_se K).Ok prog R (.block 2 (.loop (cd (bodyOf f63) [1, 1, 1, 1, 0, 1, 0, 0]))) := stmtN_ok (Li := [(1, .sl), (2, .addr), (4, .addr), (5, .addr), (7, .addr), (8, .int .i64)]) (Lo := []) (S := (fun x w => ref01_narrow_l1 K K x.1 x.2.1 x.2.2.1 x.2.2.2.1 x.2.2.2.2.1 x.2.2.2.2.2.1 w)) (ref01_narrow_l1_ok K K) (subR_of h)
theorem ref01_narrow_l2_ok (K : Nat) (n : Nat) : StmtNOk prog [(1, .sl), (2, .addr), (4, .addr), (5, .addr), (7, .addr), (9, .int .i64)] [] [(9, 10), (32, 46)] ((fun n x w => ref01_narrow_l2 K n x.1 x.2.1 x.2.2.1 x.2.2.2.1 x.2.2.2.2.1 x.2.2.2.2.2.1 w) n) (.block 4 (.loop (cd (bodyOf f63) [1, 1, 1, 1, 1, 0, 1, 0, 0]))) :=
    mk_loopN (O := tabL []) (root := (bodyOf f63)) (π := [1, 1, 1, 1, 1, 0, 1, 0, 0]) (id := 4) (Li := [(1, .sl), (2, .addr), (4, .addr), (5, .addr), (7, .addr), (9, .int .i64)]) (Lo := []) (S := (fun n x w => ref01_narrow_l2 K n x.1 x.2.1 x.2.2.1 x.2.2.2.1 x.2.2.2.2.1 x.2.2.2.2.2.1 w)) (body := cd (bodyOf f63) [1, 1, 1, 1, 1, 0, 1, 0, 0]) (ref01_narrow_Eok K) (ref01_narrow_Rok K) rfl (Orc.nil _ _ _) (by kernel_rfl) (fun _ _ => by kernel_rfl) (fun _ _ _ => by kernel_rfl) n
noncomputable def ref01_narrow_l2_se (K : Nat) : SE := stmtN [(1, .sl), (2, .addr), (4, .addr), (5, .addr), (7, .addr), (9, .int .i64)] [] [(9, 10), (32, 46)] (fun x w => ref01_narrow_l2 K K x.1 x.2.1 x.2.2.1 x.2.2.2.1 x.2.2.2.2.1 x.2.2.2.2.2.1 w)
theorem ref01_narrow_l2_se_ok (K : Nat) (R : Rg) (h : subRB [(9, 10), (32, 46)] R = true) : (ref01_narrow_l2_se K).Ok prog R (.block 4 (.loop (cd (bodyOf f63) [1, 1, 1, 1, 1, 0, 1, 0, 0]))) := stmtN_ok (Li := [(1, .sl), (2, .addr), (4, .addr), (5, .addr), (7, .addr), (9, .int .i64)]) (Lo := []) (S := (fun x w => ref01_narrow_l2 K K x.1 x.2.1 x.2.2.1 x.2.2.2.1 x.2.2.2.2.1 x.2.2.2.2.2.1 w)) (ref01_narrow_l2_ok K K) (subR_of h)
theorem ref01_narrow_l3_ok (K : Nat) (n : Nat) : StmtNOk prog [(2, .addr), (4, .addr), (7, .addr), (10, .int .i64)] [] [(10, 11), (46, 56)] ((fun n x w => ref01_narrow_l3 K n x.1 x.2.1 x.2.2.1 x.2.2.2.1 w) n) (.block 6 (.loop (cd (bodyOf f63) [1, 1, 1, 1, 1, 1, 0, 1, 0, 0]))) :=
    mk_loopN (O := tabL []) (root := (bodyOf f63)) (π := [1, 1, 1, 1, 1, 1, 0, 1, 0, 0]) (id := 6) (Li := [(2, .addr), (4, .addr), (7, .addr), (10, .int .i64)]) (Lo := []) (S := (fun n x w => ref01_narrow_l3 K n x.1 x.2.1 x.2.2.1 x.2.2.2.1 w)) (body := cd (bodyOf f63) [1, 1, 1, 1, 1, 1, 0, 1, 0, 0]) (ref01_narrow_Eok K) (ref01_narrow_Rok K) rfl (Orc.nil _ _ _) (by kernel_rfl) (fun _ _ => by kernel_rfl) (fun _ _ _ => by kernel_rfl) n
noncomputable def ref01_narrow_l3_se (K : Nat) : SE := stmtN [(2, .addr), (4, .addr), (7, .addr), (10, .int .i64)] [] [(10, 11), (46, 56)] (fun x w => ref01_narrow_l3 K K x.1 x.2.1 x.2.2.1 x.2.2.2.1 w)
theorem ref01_narrow_l3_se_ok (K : Nat) (R : Rg) (h : subRB [(10, 11), (46, 56)] R = true) : (ref01_narrow_l3_se K).Ok prog R (.block 6 (.loop (cd (bodyOf f63) [1, 1, 1, 1, 1, 1, 0, 1, 0, 0]))) := stmtN_ok (Li := [(2, .addr), (4, .addr), (7, .addr), (10, .int .i64)]) (Lo := []) (S := (fun x w => ref01_narrow_l3 K K x.1 x.2.1 x.2.2.1 x.2.2.2.1 w)) (ref01_narrow_l3_ok K K) (subR_of h)
theorem ref01_narrow_facts : FunFacts prog 63 f63 (bodyOf f63) [(0, .agg), (1, .sl)] [(0, 57)] := ⟨func63, by kernel_rfl, by kernel_rfl, by kernel_rfl, by kernel_rfl, by kernel_rfl⟩
theorem ref01_narrow_calls (K : Nat) (x : TT [(0, .agg), (1, .sl)]) (w : World) (y : TR [.agg]) (w2 : World) (h : ref01_narrow K x.1 x.2.1 w = some (y, w2)) : Calls prog 63 (encA [(0, .agg), (1, .sl)] x).toArray w (fun e w3 => e = .returned (resV (encR [.agg] y)) ∧ w3 = w2) :=
    mk_fun (O := tabL [([1, 1, 0, 1], ref01_narrow_l0_se K), ([1, 1, 1, 1, 0, 1], ref01_narrow_l1_se K), ([1, 1, 1, 1, 1, 0, 1], ref01_narrow_l2_se K), ([1, 1, 1, 1, 1, 1, 0, 1], ref01_narrow_l3_se K)]) (Lp := [(0, .agg), (1, .sl)]) (Rt := [.agg]) (S := (fun x w => ref01_narrow K x.1 x.2.1 w)) (ref01_narrow_Eok K) (ref01_narrow_Rok K) rfl ref01_narrow_facts (Orc.cons (by kernel_rfl) (ref01_narrow_l0_se_ok K [(0, 57)] (by kernel_rfl)) (Orc.cons (by kernel_rfl) (ref01_narrow_l1_se_ok K [(0, 57)] (by kernel_rfl)) (Orc.cons (by kernel_rfl) (ref01_narrow_l2_se_ok K [(0, 57)] (by kernel_rfl)) (Orc.cons (by kernel_rfl) (ref01_narrow_l3_se_ok K [(0, 57)] (by kernel_rfl)) (Orc.nil _ _ _))))) (fun _ _ => by kernel_rfl) x w y w2 h
noncomputable def ref01_narrow_ce (K : Nat) : CE := funE [(0, .agg), (1, .sl)] [.agg] (fun x w => ref01_narrow K x.1 x.2.1 w)
theorem ref01_narrow_ok (K : Nat) : (ref01_narrow_ce K).Ok prog 63 := funE_ok (Rt := [.agg]) (S := (fun x w => ref01_narrow K x.1 x.2.1 w)) ref01_narrow_facts fun x w y w2 h => ref01_narrow_calls K x w y w2 h

noncomputable def ref01_taken64_E (K : Nat) : List (Nat × CE) := []
theorem ref01_taken64_Eok (K : Nat) : Env.Ok prog (tab (ref01_taken64_E K)) := (Env.nil _)
noncomputable def ref01_taken64_R (K : Nat) : List (Nat × RE) := []
theorem ref01_taken64_Rok (K : Nat) : REnv.Ok prog (tab (ref01_taken64_R K)) := (REnv.nil _)
noncomputable def ref01_taken64_l1_b (K : Nat) (rec : Sl → Addr → Addr → Addr → Int → Int → World → Option ((Unit) × World)) (block1 : Sl) (h2 : Addr) (a4 : Addr) (w5 : Addr) (t6 : Int) (i7 : Int) (w : World) : Option ((Unit) × World) :=
  if (decide (i7 < 8)) = true then (if (0 : Int) ≤ t6 ∧ t6 < ((80 : Nat) : Int) then ((block1.a).bind fun p_7 =>
  if (0 : Int) ≤ (IntKind.i64.wrap ((IntKind.i64.wrap (8 * t6)) + i7)) ∧ (IntKind.i64.wrap ((IntKind.i64.wrap (8 * t6)) + i7)) < ((block1.len : Nat) : Int) then ((ldI .u64 (w5.add ((Int.toNat t6) * 1)) w.drew).bind fun v_8 =>
  (ldI .u8 (p_7.add ((Int.toNat (IntKind.i64.wrap ((IntKind.i64.wrap (8 * t6)) + i7))) * 1)) w.drew).bind fun v_9 =>
  if (0 : Int) ≤ t6 ∧ t6 < ((80 : Nat) : Int) then ((stC (w5.add ((Int.toNat t6) * 1)) (.int .u64 (bits .or .u64 (IntKind.u64.wrap (v_8 * 2 ^ 8)) (IntKind.u64.wrap v_9))) w.drew).bind fun w_10 =>
  rec block1 h2 a4 w5 t6 (IntKind.i64.wrap (i7 + 1)) w_10) else none) else none) else none) else (some ((), w))
noncomputable def ref01_taken64_l1 (K : Nat) (n : Nat) : Sl → Addr → Addr → Addr → Int → Int → World → Option ((Unit) × World) := iter (fun _ _ _ _ _ _ _ => none) (ref01_taken64_l1_b K) n
noncomputable def ref01_taken64_l0_b (K : Nat) (rec : Sl → Addr → Addr → Addr → Int → World → Option ((Unit) × World)) (block1 : Sl) (h2 : Addr) (a4 : Addr) (w5 : Addr) (t6 : Int) (w : World) : Option ((Unit) × World) :=
  if (decide (t6 < 16)) = true then (bnd (ref01_taken64_l1 K K block1 h2 a4 w5 t6 0 w) fun y_11 w_12 =>
  rec block1 h2 a4 w5 (IntKind.i64.wrap (t6 + 1)) w_12) else (some ((), w))
noncomputable def ref01_taken64_l0 (K : Nat) (n : Nat) : Sl → Addr → Addr → Addr → Int → World → Option ((Unit) × World) := iter (fun _ _ _ _ _ _ => none) (ref01_taken64_l0_b K) n
noncomputable def ref01_taken64_l2_b (K : Nat) (rec : Addr → Addr → Addr → Int → World → Option ((Unit) × World)) (h2 : Addr) (a4 : Addr) (w5 : Addr) (t8 : Int) (w : World) : Option ((Unit) × World) :=
  if (decide (t8 < 80)) = true then (if (0 : Int) ≤ (IntKind.i64.wrap (t8 - 15)) ∧ (IntKind.i64.wrap (t8 - 15)) < ((80 : Nat) : Int) then ((ldI .u64 (w5.add ((Int.toNat (IntKind.i64.wrap (t8 - 15))) * 1)) w).bind fun v_15 =>
  if (0 : Int) ≤ (IntKind.i64.wrap (t8 - 2)) ∧ (IntKind.i64.wrap (t8 - 2)) < ((80 : Nat) : Int) then ((ldI .u64 (w5.add ((Int.toNat (IntKind.i64.wrap (t8 - 2))) * 1)) w).bind fun v_16 =>
  if (0 : Int) ≤ (IntKind.i64.wrap (t8 - 7)) ∧ (IntKind.i64.wrap (t8 - 7)) < ((80 : Nat) : Int) then (if (0 : Int) ≤ (IntKind.i64.wrap (t8 - 16)) ∧ (IntKind.i64.wrap (t8 - 16)) < ((80 : Nat) : Int) then ((ldI .u64 (w5.add ((Int.toNat (IntKind.i64.wrap (t8 - 7))) * 1)) w.drew).bind fun v_17 =>
  (ldI .u64 (w5.add ((Int.toNat (IntKind.i64.wrap (t8 - 16))) * 1)) w.drew).bind fun v_18 =>
  if (0 : Int) ≤ t8 ∧ t8 < ((80 : Nat) : Int) then ((stC (w5.add ((Int.toNat t8) * 1)) (.int .u64 (IntKind.u64.wrap ((IntKind.u64.wrap ((IntKind.u64.wrap ((bits .xor .u64 (bits .xor .u64 (bits .or .u64 (Int.fdiv v_16 (2 ^ 19)) (IntKind.u64.wrap (v_16 * 2 ^ 45))) (bits .or .u64 (Int.fdiv v_16 (2 ^ 61)) (IntKind.u64.wrap (v_16 * 2 ^ 3)))) (Int.fdiv v_16 (2 ^ 6))) + v_17)) + (bits .xor .u64 (bits .xor .u64 (bits .or .u64 (Int.fdiv v_15 (2 ^ 1)) (IntKind.u64.wrap (v_15 * 2 ^ 63))) (bits .or .u64 (Int.fdiv v_15 (2 ^ 8)) (IntKind.u64.wrap (v_15 * 2 ^ 56)))) (Int.fdiv v_15 (2 ^ 7))))) + v_18))) w.drew).bind fun w_19 =>
  rec h2 a4 w5 (IntKind.i64.wrap (t8 + 1)) w_19) else none) else none) else none) else none) else none) else (some ((), w))
noncomputable def ref01_taken64_l2 (K : Nat) (n : Nat) : Addr → Addr → Addr → Int → World → Option ((Unit) × World) := iter (fun _ _ _ _ _ => none) (ref01_taken64_l2_b K) n
noncomputable def ref01_taken64_l3_b (K : Nat) (rec : Addr → Addr → Addr → Int → Int → Int → Int → Int → Int → Int → Int → Int → World → Option ((Int × Int × Int × Int × Int × Int × Int × Int × Unit) × World)) (h2 : Addr) (a4 : Addr) (w5 : Addr) (a13 : Int) (b14 : Int) (c15 : Int) (d16 : Int) (e17 : Int) (f18 : Int) (g19 : Int) (z20 : Int) (t21 : Int) (w : World) : Option ((Int × Int × Int × Int × Int × Int × Int × Int × Unit) × World) :=
  if (decide (t21 < 80)) = true then (if (0 : Int) ≤ t21 ∧ t21 < ((80 : Nat) : Int) then (if (0 : Int) ≤ t21 ∧ t21 < ((80 : Nat) : Int) then ((ldI .u64 ((⟨3, 0, none⟩ : Addr).add ((Int.toNat t21) * 1)) w.drew).bind fun v_30 =>
  (ldI .u64 (w5.add ((Int.toNat t21) * 1)) w.drew).bind fun v_31 =>
  rec h2 a4 w5 (IntKind.u64.wrap ((IntKind.u64.wrap ((IntKind.u64.wrap ((IntKind.u64.wrap ((IntKind.u64.wrap (z20 + (bits .xor .u64 (bits .xor .u64 (bits .or .u64 (Int.fdiv e17 (2 ^ 14)) (IntKind.u64.wrap (e17 * 2 ^ 50))) (bits .or .u64 (Int.fdiv e17 (2 ^ 18)) (IntKind.u64.wrap (e17 * 2 ^ 46)))) (bits .or .u64 (Int.fdiv e17 (2 ^ 41)) (IntKind.u64.wrap (e17 * 2 ^ 23)))))) + (bits .or .u64 (bits .and .u64 e17 f18) (bits .and .u64 (bits .xor .u64 IntKind.u64.max e17) g19)))) + v_30)) + v_31)) + (IntKind.u64.wrap ((bits .xor .u64 (bits .xor .u64 (bits .or .u64 (Int.fdiv a13 (2 ^ 28)) (IntKind.u64.wrap (a13 * 2 ^ 36))) (bits .or .u64 (Int.fdiv a13 (2 ^ 34)) (IntKind.u64.wrap (a13 * 2 ^ 30)))) (bits .or .u64 (Int.fdiv a13 (2 ^ 39)) (IntKind.u64.wrap (a13 * 2 ^ 25)))) + (bits .or .u64 (bits .or .u64 (bits .and .u64 a13 b14) (bits .and .u64 a13 c15)) (bits .and .u64 b14 c15)))))) a13 b14 c15 (IntKind.u64.wrap (d16 + (IntKind.u64.wrap ((IntKind.u64.wrap ((IntKind.u64.wrap ((IntKind.u64.wrap (z20 + (bits .xor .u64 (bits .xor .u64 (bits .or .u64 (Int.fdiv e17 (2 ^ 14)) (IntKind.u64.wrap (e17 * 2 ^ 50))) (bits .or .u64 (Int.fdiv e17 (2 ^ 18)) (IntKind.u64.wrap (e17 * 2 ^ 46)))) (bits .or .u64 (Int.fdiv e17 (2 ^ 41)) (IntKind.u64.wrap (e17 * 2 ^ 23)))))) + (bits .or .u64 (bits .and .u64 e17 f18) (bits .and .u64 (bits .xor .u64 IntKind.u64.max e17) g19)))) + v_30)) + v_31)))) e17 f18 g19 (IntKind.i64.wrap (t21 + 1)) w.drew) else none) else none) else (some ((a13, b14, c15, d16, e17, f18, g19, z20, ()), w))
noncomputable def ref01_taken64_l3 (K : Nat) (n : Nat) : Addr → Addr → Addr → Int → Int → Int → Int → Int → Int → Int → Int → Int → World → Option ((Int × Int × Int × Int × Int × Int × Int × Int × Unit) × World) := iter (fun _ _ _ _ _ _ _ _ _ _ _ _ _ => none) (ref01_taken64_l3_b K) n
/-- coffer/cofferref01.taken64 -/
noncomputable def ref01_taken64 (K : Nat) (h0 : Array Value) (block1 : Sl) (w : World) : Option (((Array Value) × Unit) × World) :=
  bnd (newB h0 105 w) fun p_1 w_2 =>
  bnd (newB z105 105 w_2) fun p_3 w_4 =>
  bnd (newB z103 103 w_4) fun w_5 w_6 =>
  bnd (ref01_taken64_l0 K K block1 p_1 p_3 w_5 0 w_6) fun y_13 w_14 =>
  bnd (ref01_taken64_l2 K K p_1 p_3 w_5 16 w_14) fun y_20 w_21 =>
  (ldI .u64 (p_1.add (0 * 1)) w_21.drew).bind fun v_22 =>
  (ldI .u64 (p_1.add (1 * 1)) w_21.drew).bind fun v_23 =>
  (ldI .u64 (p_1.add (2 * 1)) w_21.drew).bind fun v_24 =>
  (ldI .u64 (p_1.add (3 * 1)) w_21.drew).bind fun v_25 =>
  (ldI .u64 (p_1.add (4 * 1)) w_21.drew.drew).bind fun v_26 =>
  (ldI .u64 (p_1.add (5 * 1)) w_21.drew.drew).bind fun v_27 =>
  (ldI .u64 (p_1.add (6 * 1)) w_21.drew.drew).bind fun v_28 =>
  (ldI .u64 (p_1.add (7 * 1)) w_21.drew.drew).bind fun v_29 =>
  bnd (ref01_taken64_l3 K K p_1 p_3 w_5 v_22 v_23 v_24 v_25 v_26 v_27 v_28 v_29 0 w_21.drew.drew) fun y_32 w_33 =>
  (ldI .u64 (p_1.add (0 * 1)) w_33).bind fun v_34 =>
  (ldI .u64 (p_1.add (1 * 1)) w_33).bind fun v_35 =>
  (ldI .u64 (p_1.add (2 * 1)) w_33).bind fun v_36 =>
  (ldI .u64 (p_1.add (3 * 1)) w_33).bind fun v_37 =>
  (ldI .u64 (p_1.add (4 * 1)) w_33).bind fun v_38 =>
  (ldI .u64 (p_1.add (5 * 1)) w_33).bind fun v_39 =>
  (ldI .u64 (p_1.add (6 * 1)) w_33).bind fun v_40 =>
  (ldI .u64 (p_1.add (7 * 1)) w_33).bind fun v_41 =>
  (prog.built 105 [(0, (.int .u64 (IntKind.u64.wrap (v_34 + y_32.1)))), (1, (.int .u64 (IntKind.u64.wrap (v_35 + y_32.2.1)))), (2, (.int .u64 (IntKind.u64.wrap (v_36 + y_32.2.2.1)))), (3, (.int .u64 (IntKind.u64.wrap (v_37 + y_32.2.2.2.1)))), (4, (.int .u64 (IntKind.u64.wrap (v_38 + y_32.2.2.2.2.1)))), (5, (.int .u64 (IntKind.u64.wrap (v_39 + y_32.2.2.2.2.2.1)))), (6, (.int .u64 (IntKind.u64.wrap (v_40 + y_32.2.2.2.2.2.2.1)))), (7, (.int .u64 (IntKind.u64.wrap (v_41 + y_32.2.2.2.2.2.2.2.1))))]).bind fun cs_42 =>
  if (cs_42).size = 8 then ((stA p_3 cs_42 w_33).bind fun w_43 =>
  (ldA 8 p_3 w_43).bind fun res_44 =>
  some ((res_44, ()), w_43)) else none
theorem ref01_taken64_l1_ok (K : Nat) (n : Nat) : StmtNOk prog [(1, .sl), (2, .addr), (4, .addr), (5, .addr), (6, .int .i64), (7, .int .i64)] [] [(7, 8), (30, 49)] ((fun n x w => ref01_taken64_l1 K n x.1 x.2.1 x.2.2.1 x.2.2.2.1 x.2.2.2.2.1 x.2.2.2.2.2.1 w) n) (.block 2 (.loop (cd (bodyOf f64) [1, 1, 0, 1, 0, 0, 1, 0, 0, 1, 0, 0]))) :=
    mk_loopN (O := tabL []) (root := (bodyOf f64)) (π := [1, 1, 0, 1, 0, 0, 1, 0, 0, 1, 0, 0]) (id := 2) (Li := [(1, .sl), (2, .addr), (4, .addr), (5, .addr), (6, .int .i64), (7, .int .i64)]) (Lo := []) (S := (fun n x w => ref01_taken64_l1 K n x.1 x.2.1 x.2.2.1 x.2.2.2.1 x.2.2.2.2.1 x.2.2.2.2.2.1 w)) (body := cd (bodyOf f64) [1, 1, 0, 1, 0, 0, 1, 0, 0, 1, 0, 0]) (ref01_taken64_Eok K) (ref01_taken64_Rok K) rfl (Orc.nil _ _ _) (by kernel_rfl) (fun _ _ => by kernel_rfl) (fun _ _ _ => by kernel_rfl) n
noncomputable def ref01_taken64_l1_se (K : Nat) : SE := stmtN [(1, .sl), (2, .addr), (4, .addr), (5, .addr), (6, .int .i64), (7, .int .i64)] [] [(7, 8), (30, 49)] (fun x w => ref01_taken64_l1 K K x.1 x.2.1 x.2.2.1 x.2.2.2.1 x.2.2.2.2.1 x.2.2.2.2.2.1 w)
theorem ref01_taken64_l1_se_ok (K : Nat) (R : Rg) (h : subRB [(7, 8), (30, 49)] R = true) : (ref01_taken64_l1_se K).Ok prog R (.block 2 (.loop (cd (bodyOf f64) [1, 1, 0, 1, 0, 0, 1, 0, 0, 1, 0, 0]))) := stmtN_ok (Li := [(1, .sl), (2, .addr), (4, .addr), (5, .addr), (6, .int .i64), (7, .int .i64)]) (Lo := []) (S := (fun x w => ref01_taken64_l1 K K x.1 x.2.1 x.2.2.1 x.2.2.2.1 x.2.2.2.2.1 x.2.2.2.2.2.1 w)) (ref01_taken64_l1_ok K K) (subR_of h)
theorem ref01_taken64_l0_ok (K : Nat) (n : Nat) : StmtNOk prog [(1, .sl), (2, .addr), (4, .addr), (5, .addr), (6, .int .i64)] [] [(6, 8), (26, 49)] ((fun n x w => ref01_taken64_l0 K n x.1 x.2.1 x.2.2.1 x.2.2.2.1 x.2.2.2.2.1 w) n) (.block 0 (.loop (cd (bodyOf f64) [1, 1, 0, 1, 0, 0]))) :=
    mk_loopN (O := tabL [([1, 1, 0, 1, 0, 0, 1, 0, 0, 1], ref01_taken64_l1_se K)]) (root := (bodyOf f64)) (π := [1, 1, 0, 1, 0, 0]) (id := 0) (Li := [(1, .sl), (2, .addr), (4, .addr), (5, .addr), (6, .int .i64)]) (Lo := []) (S := (fun n x w => ref01_taken64_l0 K n x.1 x.2.1 x.2.2.1 x.2.2.2.1 x.2.2.2.2.1 w)) (body := cd (bodyOf f64) [1, 1, 0, 1, 0, 0]) (ref01_taken64_Eok K) (ref01_taken64_Rok K) rfl (Orc.cons (by kernel_rfl) (ref01_taken64_l1_se_ok K [(6, 8), (26, 49)] (by kernel_rfl)) (Orc.nil _ _ _)) (by kernel_rfl) (fun _ _ => by kernel_rfl) (fun _ _ _ => by kernel_rfl) n
noncomputable def ref01_taken64_l0_se (K : Nat) : SE := stmtN [(1, .sl), (2, .addr), (4, .addr), (5, .addr), (6, .int .i64)] [] [(6, 8), (26, 49)] (fun x w => ref01_taken64_l0 K K x.1 x.2.1 x.2.2.1 x.2.2.2.1 x.2.2.2.2.1 w)
theorem ref01_taken64_l0_se_ok (K : Nat) (R : Rg) (h : subRB [(6, 8), (26, 49)] R = true) : (ref01_taken64_l0_se K).Ok prog R (.block 0 (.loop (cd (bodyOf f64) [1, 1, 0, 1, 0, 0]))) := stmtN_ok (Li := [(1, .sl), (2, .addr), (4, .addr), (5, .addr), (6, .int .i64)]) (Lo := []) (S := (fun x w => ref01_taken64_l0 K K x.1 x.2.1 x.2.2.1 x.2.2.2.1 x.2.2.2.2.1 w)) (ref01_taken64_l0_ok K K) (subR_of h)
theorem ref01_taken64_l2_ok (K : Nat) (n : Nat) : StmtNOk prog [(2, .addr), (4, .addr), (5, .addr), (8, .int .i64)] [] [(8, 13), (49, 104)] ((fun n x w => ref01_taken64_l2 K n x.1 x.2.1 x.2.2.1 x.2.2.2.1 w) n) (.block 4 (.loop (cd (bodyOf f64) [1, 1, 1, 0, 1, 0, 0]))) :=
    mk_loopN (O := tabL []) (root := (bodyOf f64)) (π := [1, 1, 1, 0, 1, 0, 0]) (id := 4) (Li := [(2, .addr), (4, .addr), (5, .addr), (8, .int .i64)]) (Lo := []) (S := (fun n x w => ref01_taken64_l2 K n x.1 x.2.1 x.2.2.1 x.2.2.2.1 w)) (body := cd (bodyOf f64) [1, 1, 1, 0, 1, 0, 0]) (ref01_taken64_Eok K) (ref01_taken64_Rok K) rfl (Orc.nil _ _ _) (by kernel_rfl) (fun _ _ => by kernel_rfl) (fun _ _ _ => by kernel_rfl) n
noncomputable def ref01_taken64_l2_se (K : Nat) : SE := stmtN [(2, .addr), (4, .addr), (5, .addr), (8, .int .i64)] [] [(8, 13), (49, 104)] (fun x w => ref01_taken64_l2 K K x.1 x.2.1 x.2.2.1 x.2.2.2.1 w)
theorem ref01_taken64_l2_se_ok (K : Nat) (R : Rg) (h : subRB [(8, 13), (49, 104)] R = true) : (ref01_taken64_l2_se K).Ok prog R (.block 4 (.loop (cd (bodyOf f64) [1, 1, 1, 0, 1, 0, 0]))) := stmtN_ok (Li := [(2, .addr), (4, .addr), (5, .addr), (8, .int .i64)]) (Lo := []) (S := (fun x w => ref01_taken64_l2 K K x.1 x.2.1 x.2.2.1 x.2.2.2.1 w)) (ref01_taken64_l2_ok K K) (subR_of h)
theorem ref01_taken64_l3_ok (K : Nat) (n : Nat) : StmtNOk prog [(2, .addr), (4, .addr), (5, .addr), (13, .int .u64), (14, .int .u64), (15, .int .u64), (16, .int .u64), (17, .int .u64), (18, .int .u64), (19, .int .u64), (20, .int .u64), (21, .int .i64)] [(13, .int .u64), (14, .int .u64), (15, .int .u64), (16, .int .u64), (17, .int .u64), (18, .int .u64), (19, .int .u64), (20, .int .u64)] [(13, 26), (120, 203)] ((fun n x w => ref01_taken64_l3 K n x.1 x.2.1 x.2.2.1 x.2.2.2.1 x.2.2.2.2.1 x.2.2.2.2.2.1 x.2.2.2.2.2.2.1 x.2.2.2.2.2.2.2.1 x.2.2.2.2.2.2.2.2.1 x.2.2.2.2.2.2.2.2.2.1 x.2.2.2.2.2.2.2.2.2.2.1 x.2.2.2.2.2.2.2.2.2.2.2.1 w) n) (.block 6 (.loop (cd (bodyOf f64) [1, 1, 1, 1, 1, 1, 0, 1, 0, 0]))) :=
    mk_loopN (O := tabL []) (root := (bodyOf f64)) (π := [1, 1, 1, 1, 1, 1, 0, 1, 0, 0]) (id := 6) (Li := [(2, .addr), (4, .addr), (5, .addr), (13, .int .u64), (14, .int .u64), (15, .int .u64), (16, .int .u64), (17, .int .u64), (18, .int .u64), (19, .int .u64), (20, .int .u64), (21, .int .i64)]) (Lo := [(13, .int .u64), (14, .int .u64), (15, .int .u64), (16, .int .u64), (17, .int .u64), (18, .int .u64), (19, .int .u64), (20, .int .u64)]) (S := (fun n x w => ref01_taken64_l3 K n x.1 x.2.1 x.2.2.1 x.2.2.2.1 x.2.2.2.2.1 x.2.2.2.2.2.1 x.2.2.2.2.2.2.1 x.2.2.2.2.2.2.2.1 x.2.2.2.2.2.2.2.2.1 x.2.2.2.2.2.2.2.2.2.1 x.2.2.2.2.2.2.2.2.2.2.1 x.2.2.2.2.2.2.2.2.2.2.2.1 w)) (body := cd (bodyOf f64) [1, 1, 1, 1, 1, 1, 0, 1, 0, 0]) (ref01_taken64_Eok K) (ref01_taken64_Rok K) rfl (Orc.nil _ _ _) (by kernel_rfl) (fun _ _ => by kernel_rfl) (fun _ _ _ => by kernel_rfl) n
noncomputable def ref01_taken64_l3_se (K : Nat) : SE := stmtN [(2, .addr), (4, .addr), (5, .addr), (13, .int .u64), (14, .int .u64), (15, .int .u64), (16, .int .u64), (17, .int .u64), (18, .int .u64), (19, .int .u64), (20, .int .u64), (21, .int .i64)] [(13, .int .u64), (14, .int .u64), (15, .int .u64), (16, .int .u64), (17, .int .u64), (18, .int .u64), (19, .int .u64), (20, .int .u64)] [(13, 26), (120, 203)] (fun x w => ref01_taken64_l3 K K x.1 x.2.1 x.2.2.1 x.2.2.2.1 x.2.2.2.2.1 x.2.2.2.2.2.1 x.2.2.2.2.2.2.1 x.2.2.2.2.2.2.2.1 x.2.2.2.2.2.2.2.2.1 x.2.2.2.2.2.2.2.2.2.1 x.2.2.2.2.2.2.2.2.2.2.1 x.2.2.2.2.2.2.2.2.2.2.2.1 w)
theorem ref01_taken64_l3_se_ok (K : Nat) (R : Rg) (h : subRB [(13, 26), (120, 203)] R = true) : (ref01_taken64_l3_se K).Ok prog R (.block 6 (.loop (cd (bodyOf f64) [1, 1, 1, 1, 1, 1, 0, 1, 0, 0]))) := stmtN_ok (Li := [(2, .addr), (4, .addr), (5, .addr), (13, .int .u64), (14, .int .u64), (15, .int .u64), (16, .int .u64), (17, .int .u64), (18, .int .u64), (19, .int .u64), (20, .int .u64), (21, .int .i64)]) (Lo := [(13, .int .u64), (14, .int .u64), (15, .int .u64), (16, .int .u64), (17, .int .u64), (18, .int .u64), (19, .int .u64), (20, .int .u64)]) (S := (fun x w => ref01_taken64_l3 K K x.1 x.2.1 x.2.2.1 x.2.2.2.1 x.2.2.2.2.1 x.2.2.2.2.2.1 x.2.2.2.2.2.2.1 x.2.2.2.2.2.2.2.1 x.2.2.2.2.2.2.2.2.1 x.2.2.2.2.2.2.2.2.2.1 x.2.2.2.2.2.2.2.2.2.2.1 x.2.2.2.2.2.2.2.2.2.2.2.1 w)) (ref01_taken64_l3_ok K K) (subR_of h)
theorem ref01_taken64_facts : FunFacts prog 64 f64 (bodyOf f64) [(0, .agg), (1, .sl)] [(0, 236)] := ⟨func64, by kernel_rfl, by kernel_rfl, by kernel_rfl, by kernel_rfl, by kernel_rfl⟩
theorem ref01_taken64_calls (K : Nat) (x : TT [(0, .agg), (1, .sl)]) (w : World) (y : TR [.agg]) (w2 : World) (h : ref01_taken64 K x.1 x.2.1 w = some (y, w2)) : Calls prog 64 (encA [(0, .agg), (1, .sl)] x).toArray w (fun e w3 => e = .returned (resV (encR [.agg] y)) ∧ w3 = w2) :=
    mk_fun (O := tabL [([1, 1, 0, 1], ref01_taken64_l0_se K), ([1, 1, 0, 1, 0, 0, 1, 0, 0, 1], ref01_taken64_l1_se K), ([1, 1, 1, 0, 1], ref01_taken64_l2_se K), ([1, 1, 1, 1, 1, 1, 0, 1], ref01_taken64_l3_se K)]) (Lp := [(0, .agg), (1, .sl)]) (Rt := [.agg]) (S := (fun x w => ref01_taken64 K x.1 x.2.1 w)) (ref01_taken64_Eok K) (ref01_taken64_Rok K) rfl ref01_taken64_facts (Orc.cons (by kernel_rfl) (ref01_taken64_l0_se_ok K [(0, 236)] (by kernel_rfl)) (Orc.cons (by kernel_rfl) (ref01_taken64_l1_se_ok K [(0, 236)] (by kernel_rfl)) (Orc.cons (by kernel_rfl) (ref01_taken64_l2_se_ok K [(0, 236)] (by kernel_rfl)) (Orc.cons (by kernel_rfl) (ref01_taken64_l3_se_ok K [(0, 236)] (by kernel_rfl)) (Orc.nil _ _ _))))) (fun _ _ => by kernel_rfl) x w y w2 h
noncomputable def ref01_taken64_ce (K : Nat) : CE := funE [(0, .agg), (1, .sl)] [.agg] (fun x w => ref01_taken64 K x.1 x.2.1 w)
theorem ref01_taken64_ok (K : Nat) : (ref01_taken64_ce K).Ok prog 64 := funE_ok (Rt := [.agg]) (S := (fun x w => ref01_taken64 K x.1 x.2.1 w)) ref01_taken64_facts fun x w y w2 h => ref01_taken64_calls K x w y w2 h

end Go.Sh

/- What functions of the program do, as Lean functions; that the machine does just that. Printed by shal.py, a program of this claim's writer. -/
set_option maxRecDepth 100000
set_option linter.unusedVariables false
namespace Go.Sh
open Go.Fw Go.Proofs.Tryd

noncomputable def ref01_Sum_E (K : Nat) : List (Nat × CE) := [(61, ref01_first_ce K), (62, ref01_laid_ce K), (63, ref01_narrow_ce K), (64, ref01_taken64_ce K)]
theorem ref01_Sum_Eok (K : Nat) : Env.Ok prog (tab (ref01_Sum_E K)) := (Env.cons (ref01_first_ok K) (Env.cons (ref01_laid_ok K) (Env.cons (ref01_narrow_ok K) (Env.cons (ref01_taken64_ok K) (Env.nil _)))))
noncomputable def ref01_Sum_R (K : Nat) : List (Nat × RE) := [(53, ref01_Block_re), (42, ref01_Size_re)]
theorem ref01_Sum_Rok (K : Nat) : REnv.Ok prog (tab (ref01_Sum_R K)) := (REnv.cons (ref01_Block_ok) (REnv.cons (ref01_Size_ok) (REnv.nil _)))
noncomputable def ref01_Sum_l1_b (K : Nat) (rec : Addr → Sl → Int → World → Option ((Unit) × World)) (h6 : Addr) (p7 : Sl) (i9 : Int) (w : World) : Option ((Unit) × World) :=
  if (decide (i9 < ((p7.len : Nat) : Int))) = true then (if (0 : Int) ≤ (IntKind.i64.wrap (i9 + 128)) ∧ (IntKind.i64.wrap (i9 + 128)) ≤ ((p7.cap : Nat) : Int) then (if (0 : Int) ≤ i9 ∧ i9 ≤ (((Int.toNat ((IntKind.i64.wrap (i9 + 128)))) : Nat) : Int) then ((ldA 8 h6 w.drew).bind fun v_13 =>
  bnd (ref01_taken64 K v_13 ⟨(sla p7.a (Int.toNat (i9)) p7.cap 1), ((Int.toNat ((IntKind.i64.wrap (i9 + 128)))) - (Int.toNat (i9))), (p7.cap - (Int.toNat (i9)))⟩ w.drew) fun r_14 w_15 =>
  if (r_14.1).size = 8 then ((stA h6 r_14.1 w_15).bind fun w_16 =>
  rec h6 p7 (IntKind.i64.wrap (i9 + 128)) w_16) else none) else none) else none) else (some ((), w))
noncomputable def ref01_Sum_l1 (K : Nat) (n : Nat) : Addr → Sl → Int → World → Option ((Unit) × World) := iter (fun _ _ _ _ => none) (ref01_Sum_l1_b K) n
noncomputable def ref01_Sum_s0 (K : Nat) (h6 : Addr) (p7 : Sl) (a25 : Bool) (w : World) : Option ((Unit) × World) :=
  if a25 = true then ((ldA 8 h6 w).bind fun v_9 =>
  bnd (ref01_narrow K v_9 p7 w) fun r_10 w_11 =>
  if (r_10.1).size = 8 then ((stA h6 r_10.1 w_11).bind fun w_12 =>
  some ((), w_12)) else none) else (bnd (ref01_Sum_l1 K K h6 p7 0 w) fun y_17 w_18 =>
  some ((), w_18))
noncomputable def ref01_Sum_s4 (K : Nat) (hash0 : Int) (out10 : Sl) (j12 : Int) (w : World) : Option ((Bool × Unit) × World) :=
  if (decide (j12 ≥ 0)) = true then ((ref01_Size hash0).bind fun r_22 =>
  some (((decide (((out10.len : Nat) : Int) < r_22.1)), ()), w)) else (some ((false, ()), w))
noncomputable def ref01_Sum_l3_b (K : Nat) (rec : Int → Addr → Int → Sl → Int → Int → World → Option ((Sl × Unit) × World)) (hash0 : Int) (h6 : Addr) (n8 : Int) (out10 : Sl) (i11 : Int) (j12 : Int) (w : World) : Option ((Sl × Unit) × World) :=
  bnd (ref01_Sum_s4 K hash0 out10 j12 w) fun y_23 w_24 =>
  if y_23.1 = true then (if (0 : Int) ≤ i11 ∧ i11 < ((8 : Nat) : Int) then ((ldI .u64 (h6.add ((Int.toNat i11) * 1)) w_24).bind fun v_25 =>
  if (0 : Int) ≤ (IntKind.u64.wrap (IntKind.i64.wrap (8 * j12))) then (bnd (bldS prog 22 1 #[(0, (.int .u8 (IntKind.u8.wrap (Int.fdiv v_25 (2 ^ (min (Int.toNat (IntKind.u64.wrap (IntKind.i64.wrap (8 * j12)))) IntKind.u64.bits))))))] w_24) fun s_26 w_27 =>
  bnd (apd prog 22 22 (.slice out10.a out10.len out10.cap) (.slice s_26.a s_26.len s_26.cap) w_27) fun s_28 w_29 =>
  rec hash0 h6 n8 s_28 i11 (IntKind.i64.wrap (j12 - 1)) w_29) else none) else none) else (some ((out10, ()), w_24))
noncomputable def ref01_Sum_l3 (K : Nat) (n : Nat) : Int → Addr → Int → Sl → Int → Int → World → Option ((Sl × Unit) × World) := iter (fun _ _ _ _ _ _ _ => none) (ref01_Sum_l3_b K) n
noncomputable def ref01_Sum_l2_b (K : Nat) (rec : Int → Addr → Int → Sl → Int → World → Option ((Sl × Unit) × World)) (hash0 : Int) (h6 : Addr) (n8 : Int) (out10 : Sl) (i11 : Int) (w : World) : Option ((Sl × Unit) × World) :=
  (ref01_Size hash0).bind fun r_21 =>
  if (decide (((out10.len : Nat) : Int) < r_21.1)) = true then (bnd (ref01_Sum_l3 K K hash0 h6 n8 out10 i11 (IntKind.i64.wrap (n8 - 1)) w) fun y_30 w_31 =>
  rec hash0 h6 n8 y_30.1 (IntKind.i64.wrap (i11 + 1)) w_31) else (some ((out10, ()), w))
noncomputable def ref01_Sum_l2 (K : Nat) (n : Nat) : Int → Addr → Int → Sl → Int → World → Option ((Sl × Unit) × World) := iter (fun _ _ _ _ _ _ => none) (ref01_Sum_l2_b K) n
/-- coffer/cofferref01.Sum -/
noncomputable def ref01_Sum (K : Nat) (hash0 : Int) (b1 : Sl) (w : World) : Option ((Sl × Unit) × World) :=
  (ref01_Block hash0).bind fun r_1 =>
  if (r_1.1 == 0) = true then (some ((⟨none, 0, 0⟩, ()), w)) else (bnd (ref01_first K hash0 w) fun r_2 w_3 =>
  bnd (newB z105 105 w_3) fun h_4 w_5 =>
  if (r_2.1).size = 8 then ((stA h_4 r_2.1 w_5).bind fun w_6 =>
  bnd (ref01_laid K b1 r_1.1 w_6) fun r_7 w_8 =>
  bnd (ref01_Sum_s0 K h_4 r_7.1 ((IntKind.i64.wrap (Int.tdiv r_1.1 16)) == 4) w_8) fun y_19 w_20 =>
  bnd (ref01_Sum_l2 K K hash0 h_4 (IntKind.i64.wrap (Int.tdiv r_1.1 16)) ⟨none, 0, 0⟩ 0 w_20) fun y_32 w_33 =>
  some ((y_32.1, ()), w_33)) else none)
theorem ref01_Sum_l1_ok (K : Nat) (n : Nat) : StmtNOk prog [(6, .addr), (7, .sl), (9, .int .i64)] [] [(9, 10), (29, 42)] ((fun n x w => ref01_Sum_l1 K n x.1 x.2.1 x.2.2.1 w) n) (.block 0 (.loop (cd (bodyOf f54) [1, 1, 1, 1, 1, 1, 0, 1, 1, 1, 0, 0]))) :=
    mk_loopN (O := tabL []) (root := (bodyOf f54)) (π := [1, 1, 1, 1, 1, 1, 0, 1, 1, 1, 0, 0]) (id := 0) (Li := [(6, .addr), (7, .sl), (9, .int .i64)]) (Lo := []) (S := (fun n x w => ref01_Sum_l1 K n x.1 x.2.1 x.2.2.1 w)) (body := cd (bodyOf f54) [1, 1, 1, 1, 1, 1, 0, 1, 1, 1, 0, 0]) (ref01_Sum_Eok K) (ref01_Sum_Rok K) rfl (Orc.nil _ _ _) (by kernel_rfl) (fun _ _ => by kernel_rfl) (fun _ _ _ => by kernel_rfl) n
noncomputable def ref01_Sum_l1_se (K : Nat) : SE := stmtN [(6, .addr), (7, .sl), (9, .int .i64)] [] [(9, 10), (29, 42)] (fun x w => ref01_Sum_l1 K K x.1 x.2.1 x.2.2.1 w)
theorem ref01_Sum_l1_se_ok (K : Nat) (R : Rg) (h : subRB [(9, 10), (29, 42)] R = true) : (ref01_Sum_l1_se K).Ok prog R (.block 0 (.loop (cd (bodyOf f54) [1, 1, 1, 1, 1, 1, 0, 1, 1, 1, 0, 0]))) := stmtN_ok (Li := [(6, .addr), (7, .sl), (9, .int .i64)]) (Lo := []) (S := (fun x w => ref01_Sum_l1 K K x.1 x.2.1 x.2.2.1 w)) (ref01_Sum_l1_ok K K) (subR_of h)
theorem ref01_Sum_s0_ok (K : Nat) : StmtNOk prog [(6, .addr), (7, .sl), (25, .bool)] [] [(9, 10), (26, 42)] (fun x w => ref01_Sum_s0 K x.1 x.2.1 x.2.2.1 w) (cd (bodyOf f54) [1, 1, 1, 1, 1, 1, 0, 1]) :=
    mk_stmtN (O := tabL [([1, 1, 1, 1, 1, 1, 0, 1, 1, 1], ref01_Sum_l1_se K)]) (root := (bodyOf f54)) (π := [1, 1, 1, 1, 1, 1, 0, 1]) (Li := [(6, .addr), (7, .sl), (25, .bool)]) (Lo := []) (S := (fun x w => ref01_Sum_s0 K x.1 x.2.1 x.2.2.1 w)) (ref01_Sum_Eok K) (ref01_Sum_Rok K) rfl (Orc.cons (by kernel_rfl) (ref01_Sum_l1_se_ok K [(9, 10), (26, 42)] (by kernel_rfl)) (Orc.nil _ _ _)) (by kernel_rfl) (fun _ _ => by kernel_rfl)
noncomputable def ref01_Sum_s0_se (K : Nat) : SE := stmtN [(6, .addr), (7, .sl), (25, .bool)] [] [(9, 10), (26, 42)] (fun x w => ref01_Sum_s0 K x.1 x.2.1 x.2.2.1 w)
theorem ref01_Sum_s0_se_ok (K : Nat) (R : Rg) (h : subRB [(9, 10), (26, 42)] R = true) : (ref01_Sum_s0_se K).Ok prog R (cd (bodyOf f54) [1, 1, 1, 1, 1, 1, 0, 1]) := stmtN_ok (Li := [(6, .addr), (7, .sl), (25, .bool)]) (Lo := []) (S := (fun x w => ref01_Sum_s0 K x.1 x.2.1 x.2.2.1 w)) (ref01_Sum_s0_ok K) (subR_of h)
theorem ref01_Sum_s4_ok (K : Nat) : StmtNOk prog [(0, .int .i64), (10, .sl), (12, .int .i64)] [(59, .bool)] [(51, 60)] (fun x w => ref01_Sum_s4 K x.1 x.2.1 x.2.2.1 w) (cd (bodyOf f54) [1, 1, 1, 1, 1, 1, 1, 1, 0, 1, 0, 0, 1, 0, 0, 1, 0, 0, 0, 0]) :=
    mk_stmtN (O := tabL []) (root := (bodyOf f54)) (π := [1, 1, 1, 1, 1, 1, 1, 1, 0, 1, 0, 0, 1, 0, 0, 1, 0, 0, 0, 0]) (Li := [(0, .int .i64), (10, .sl), (12, .int .i64)]) (Lo := [(59, .bool)]) (S := (fun x w => ref01_Sum_s4 K x.1 x.2.1 x.2.2.1 w)) (ref01_Sum_Eok K) (ref01_Sum_Rok K) rfl (Orc.nil _ _ _) (by kernel_rfl) (fun _ _ => by kernel_rfl)
noncomputable def ref01_Sum_s4_se (K : Nat) : SE := stmtN [(0, .int .i64), (10, .sl), (12, .int .i64)] [(59, .bool)] [(51, 60)] (fun x w => ref01_Sum_s4 K x.1 x.2.1 x.2.2.1 w)
theorem ref01_Sum_s4_se_ok (K : Nat) (R : Rg) (h : subRB [(51, 60)] R = true) : (ref01_Sum_s4_se K).Ok prog R (cd (bodyOf f54) [1, 1, 1, 1, 1, 1, 1, 1, 0, 1, 0, 0, 1, 0, 0, 1, 0, 0, 0, 0]) := stmtN_ok (Li := [(0, .int .i64), (10, .sl), (12, .int .i64)]) (Lo := [(59, .bool)]) (S := (fun x w => ref01_Sum_s4 K x.1 x.2.1 x.2.2.1 w)) (ref01_Sum_s4_ok K) (subR_of h)
theorem ref01_Sum_l3_ok (K : Nat) (n : Nat) : StmtNOk prog [(0, .int .i64), (6, .addr), (8, .int .i64), (10, .sl), (11, .int .i64), (12, .int .i64)] [(10, .sl)] [(10, 11), (12, 13), (51, 73)] ((fun n x w => ref01_Sum_l3 K n x.1 x.2.1 x.2.2.1 x.2.2.2.1 x.2.2.2.2.1 x.2.2.2.2.2.1 w) n) (.block 4 (.loop (cd (bodyOf f54) [1, 1, 1, 1, 1, 1, 1, 1, 0, 1, 0, 0, 1, 0, 0, 1, 0, 0]))) :=
    mk_loopN (O := tabL [([1, 1, 1, 1, 1, 1, 1, 1, 0, 1, 0, 0, 1, 0, 0, 1, 0, 0, 0, 0], ref01_Sum_s4_se K)]) (root := (bodyOf f54)) (π := [1, 1, 1, 1, 1, 1, 1, 1, 0, 1, 0, 0, 1, 0, 0, 1, 0, 0]) (id := 4) (Li := [(0, .int .i64), (6, .addr), (8, .int .i64), (10, .sl), (11, .int .i64), (12, .int .i64)]) (Lo := [(10, .sl)]) (S := (fun n x w => ref01_Sum_l3 K n x.1 x.2.1 x.2.2.1 x.2.2.2.1 x.2.2.2.2.1 x.2.2.2.2.2.1 w)) (body := cd (bodyOf f54) [1, 1, 1, 1, 1, 1, 1, 1, 0, 1, 0, 0, 1, 0, 0, 1, 0, 0]) (ref01_Sum_Eok K) (ref01_Sum_Rok K) rfl (Orc.cons (by kernel_rfl) (ref01_Sum_s4_se_ok K [(10, 11), (12, 13), (51, 73)] (by kernel_rfl)) (Orc.nil _ _ _)) (by kernel_rfl) (fun _ _ => by kernel_rfl) (fun _ _ _ => by kernel_rfl) n
noncomputable def ref01_Sum_l3_se (K : Nat) : SE := stmtN [(0, .int .i64), (6, .addr), (8, .int .i64), (10, .sl), (11, .int .i64), (12, .int .i64)] [(10, .sl)] [(10, 11), (12, 13), (51, 73)] (fun x w => ref01_Sum_l3 K K x.1 x.2.1 x.2.2.1 x.2.2.2.1 x.2.2.2.2.1 x.2.2.2.2.2.1 w)
theorem ref01_Sum_l3_se_ok (K : Nat) (R : Rg) (h : subRB [(10, 11), (12, 13), (51, 73)] R = true) : (ref01_Sum_l3_se K).Ok prog R (.block 4 (.loop (cd (bodyOf f54) [1, 1, 1, 1, 1, 1, 1, 1, 0, 1, 0, 0, 1, 0, 0, 1, 0, 0]))) := stmtN_ok (Li := [(0, .int .i64), (6, .addr), (8, .int .i64), (10, .sl), (11, .int .i64), (12, .int .i64)]) (Lo := [(10, .sl)]) (S := (fun x w => ref01_Sum_l3 K K x.1 x.2.1 x.2.2.1 x.2.2.2.1 x.2.2.2.2.1 x.2.2.2.2.2.1 w)) (ref01_Sum_l3_ok K K) (subR_of h)
theorem ref01_Sum_l2_ok (K : Nat) (n : Nat) : StmtNOk prog [(0, .int .i64), (6, .addr), (8, .int .i64), (10, .sl), (11, .int .i64)] [(10, .sl)] [(10, 13), (42, 73)] ((fun n x w => ref01_Sum_l2 K n x.1 x.2.1 x.2.2.1 x.2.2.2.1 x.2.2.2.2.1 w) n) (.block 2 (.loop (cd (bodyOf f54) [1, 1, 1, 1, 1, 1, 1, 1, 0, 1, 0, 0]))) :=
    mk_loopN (O := tabL [([1, 1, 1, 1, 1, 1, 1, 1, 0, 1, 0, 0, 1, 0, 0, 1], ref01_Sum_l3_se K), ([1, 1, 1, 1, 1, 1, 1, 1, 0, 1, 0, 0, 1, 0, 0, 1, 0, 0, 0, 0], ref01_Sum_s4_se K)]) (root := (bodyOf f54)) (π := [1, 1, 1, 1, 1, 1, 1, 1, 0, 1, 0, 0]) (id := 2) (Li := [(0, .int .i64), (6, .addr), (8, .int .i64), (10, .sl), (11, .int .i64)]) (Lo := [(10, .sl)]) (S := (fun n x w => ref01_Sum_l2 K n x.1 x.2.1 x.2.2.1 x.2.2.2.1 x.2.2.2.2.1 w)) (body := cd (bodyOf f54) [1, 1, 1, 1, 1, 1, 1, 1, 0, 1, 0, 0]) (ref01_Sum_Eok K) (ref01_Sum_Rok K) rfl (Orc.cons (by kernel_rfl) (ref01_Sum_l3_se_ok K [(10, 13), (42, 73)] (by kernel_rfl)) (Orc.cons (by kernel_rfl) (ref01_Sum_s4_se_ok K [(10, 13), (42, 73)] (by kernel_rfl)) (Orc.nil _ _ _))) (by kernel_rfl) (fun _ _ => by kernel_rfl) (fun _ _ _ => by kernel_rfl) n
noncomputable def ref01_Sum_l2_se (K : Nat) : SE := stmtN [(0, .int .i64), (6, .addr), (8, .int .i64), (10, .sl), (11, .int .i64)] [(10, .sl)] [(10, 13), (42, 73)] (fun x w => ref01_Sum_l2 K K x.1 x.2.1 x.2.2.1 x.2.2.2.1 x.2.2.2.2.1 w)
theorem ref01_Sum_l2_se_ok (K : Nat) (R : Rg) (h : subRB [(10, 13), (42, 73)] R = true) : (ref01_Sum_l2_se K).Ok prog R (.block 2 (.loop (cd (bodyOf f54) [1, 1, 1, 1, 1, 1, 1, 1, 0, 1, 0, 0]))) := stmtN_ok (Li := [(0, .int .i64), (6, .addr), (8, .int .i64), (10, .sl), (11, .int .i64)]) (Lo := [(10, .sl)]) (S := (fun x w => ref01_Sum_l2 K K x.1 x.2.1 x.2.2.1 x.2.2.2.1 x.2.2.2.2.1 w)) (ref01_Sum_l2_ok K K) (subR_of h)
theorem ref01_Sum_facts : FunFacts prog 54 f54 (bodyOf f54) [(0, .int .i64), (1, .sl)] [(0, 74)] := ⟨func54, by kernel_rfl, by kernel_rfl, by kernel_rfl, by kernel_rfl, by kernel_rfl⟩
theorem ref01_Sum_calls (K : Nat) (x : TT [(0, .int .i64), (1, .sl)]) (w : World) (y : TR [.sl]) (w2 : World) (h : ref01_Sum K x.1 x.2.1 w = some (y, w2)) : Calls prog 54 (encA [(0, .int .i64), (1, .sl)] x).toArray w (fun e w3 => e = .returned (resV (encR [.sl] y)) ∧ w3 = w2) :=
    mk_fun (O := tabL [([1, 1, 1, 1, 1, 1, 0, 1], ref01_Sum_s0_se K), ([1, 1, 1, 1, 1, 1, 0, 1, 1, 1], ref01_Sum_l1_se K), ([1, 1, 1, 1, 1, 1, 1, 1, 0, 1], ref01_Sum_l2_se K), ([1, 1, 1, 1, 1, 1, 1, 1, 0, 1, 0, 0, 1, 0, 0, 1], ref01_Sum_l3_se K), ([1, 1, 1, 1, 1, 1, 1, 1, 0, 1, 0, 0, 1, 0, 0, 1, 0, 0, 0, 0], ref01_Sum_s4_se K)]) (Lp := [(0, .int .i64), (1, .sl)]) (Rt := [.sl]) (S := (fun x w => ref01_Sum K x.1 x.2.1 w)) (ref01_Sum_Eok K) (ref01_Sum_Rok K) rfl ref01_Sum_facts (Orc.cons (by kernel_rfl) (ref01_Sum_s0_se_ok K [(0, 74)] (by kernel_rfl)) (Orc.cons (by kernel_rfl) (ref01_Sum_l1_se_ok K [(0, 74)] (by kernel_rfl)) (Orc.cons (by kernel_rfl) (ref01_Sum_l2_se_ok K [(0, 74)] (by kernel_rfl)) (Orc.cons (by kernel_rfl) (ref01_Sum_l3_se_ok K [(0, 74)] (by kernel_rfl)) (Orc.cons (by kernel_rfl) (ref01_Sum_s4_se_ok K [(0, 74)] (by kernel_rfl)) (Orc.nil _ _ _)))))) (fun _ _ => by kernel_rfl) x w y w2 h
noncomputable def ref01_Sum_ce (K : Nat) : CE := funE [(0, .int .i64), (1, .sl)] [.sl] (fun x w => ref01_Sum K x.1 x.2.1 w)
theorem ref01_Sum_ok (K : Nat) : (ref01_Sum_ce K).Ok prog 54 := funE_ok (Rt := [.sl]) (S := (fun x w => ref01_Sum K x.1 x.2.1 w)) ref01_Sum_facts fun x w y w2 h => ref01_Sum_calls K x w y w2 h

noncomputable def ref01_Code_E (K : Nat) : List (Nat × CE) := [(54, ref01_Sum_ce K)]
theorem ref01_Code_Eok (K : Nat) : Env.Ok prog (tab (ref01_Code_E K)) := (Env.cons (ref01_Sum_ok K) (Env.nil _))
noncomputable def ref01_Code_R (K : Nat) : List (Nat × RE) := [(53, ref01_Block_re)]
theorem ref01_Code_Rok (K : Nat) : REnv.Ok prog (tab (ref01_Code_R K)) := (REnv.cons (ref01_Block_ok) (REnv.nil _))
noncomputable def ref01_Code_s0 (K : Nat) (hash0 : Int) (key1 : Sl) (k8 : Sl) (a22 : Bool) (w : World) : Option ((Sl × Unit) × World) :=
  if a22 = true then (bnd (ref01_Sum K hash0 key1 w) fun r_2 w_3 =>
  some ((r_2.1, ()), w_3)) else (some ((k8, ()), w))
noncomputable def ref01_Code_s2 (K : Nat) (k8 : Sl) (i11 : Int) (c12 : Int) (a34 : Bool) (w : World) : Option ((Int × Unit) × World) :=
  if a34 = true then ((k8.a).bind fun p_6 =>
  if (0 : Int) ≤ i11 ∧ i11 < ((k8.len : Nat) : Int) then ((ldI .u8 (p_6.add ((Int.toNat i11) * 1)) w).bind fun v_7 =>
  some ((v_7, ()), w)) else none) else (some ((c12, ()), w))
noncomputable def ref01_Code_l1_b (K : Nat) (rec : Int → Sl → Int → Sl → Sl → Sl → Int → World → Option ((Sl × Sl × Unit) × World)) (hash0 : Int) (b2 : Sl) (block7 : Int) (k8 : Sl) (in9 : Sl) (out10 : Sl) (i11 : Int) (w : World) : Option ((Sl × Sl × Unit) × World) :=
  if (decide (i11 < block7)) = true then (bnd (ref01_Code_s2 K k8 i11 0 (decide (i11 < ((k8.len : Nat) : Int))) w) fun y_8 w_9 =>
  bnd (bldS prog 22 1 #[(0, (.int .u8 (bits .xor .u8 y_8.1 54)))] w_9) fun s_10 w_11 =>
  bnd (apd prog 22 22 (.slice in9.a in9.len in9.cap) (.slice s_10.a s_10.len s_10.cap) w_11) fun s_12 w_13 =>
  bnd (bldS prog 22 1 #[(0, (.int .u8 (bits .xor .u8 y_8.1 92)))] w_13) fun s_14 w_15 =>
  bnd (apd prog 22 22 (.slice out10.a out10.len out10.cap) (.slice s_14.a s_14.len s_14.cap) w_15) fun s_16 w_17 =>
  rec hash0 b2 block7 k8 s_12 s_16 (IntKind.i64.wrap (i11 + 1)) w_17) else (some ((in9, out10, ()), w))
noncomputable def ref01_Code_l1 (K : Nat) (n : Nat) : Int → Sl → Int → Sl → Sl → Sl → Int → World → Option ((Sl × Sl × Unit) × World) := iter (fun _ _ _ _ _ _ _ _ => none) (ref01_Code_l1_b K) n
/-- coffer/cofferref01.Code -/
noncomputable def ref01_Code (K : Nat) (hash0 : Int) (key1 : Sl) (b2 : Sl) (w : World) : Option ((Sl × Unit) × World) :=
  (ref01_Block hash0).bind fun r_1 =>
  if (r_1.1 == 0) = true then (some ((⟨none, 0, 0⟩, ()), w)) else (bnd (ref01_Code_s0 K hash0 key1 key1 (decide (((key1.len : Nat) : Int) > r_1.1)) w) fun y_4 w_5 =>
  bnd (ref01_Code_l1 K K hash0 b2 r_1.1 y_4.1 ⟨none, 0, 0⟩ ⟨none, 0, 0⟩ 0 w_5) fun y_18 w_19 =>
  bnd (apd prog 22 22 (.slice y_18.1.a y_18.1.len y_18.1.cap) (.slice b2.a b2.len b2.cap) w_19) fun s_20 w_21 =>
  bnd (ref01_Sum K hash0 s_20 w_21) fun r_22 w_23 =>
  bnd (apd prog 22 22 (.slice y_18.2.1.a y_18.2.1.len y_18.2.1.cap) (.slice r_22.1.a r_22.1.len r_22.1.cap) w_23) fun s_24 w_25 =>
  bnd (ref01_Sum K hash0 s_24 w_25) fun r_26 w_27 =>
  some ((r_26.1, ()), w_27))
theorem ref01_Code_s0_ok (K : Nat) : StmtNOk prog [(0, .int .i64), (1, .sl), (8, .sl), (22, .bool)] [(8, .sl)] [(8, 9), (23, 26)] (fun x w => ref01_Code_s0 K x.1 x.2.1 x.2.2.1 x.2.2.2.1 w) (cd (bodyOf f45) [1, 1, 1, 1, 0, 1]) :=
    mk_stmtN (O := tabL []) (root := (bodyOf f45)) (π := [1, 1, 1, 1, 0, 1]) (Li := [(0, .int .i64), (1, .sl), (8, .sl), (22, .bool)]) (Lo := [(8, .sl)]) (S := (fun x w => ref01_Code_s0 K x.1 x.2.1 x.2.2.1 x.2.2.2.1 w)) (ref01_Code_Eok K) (ref01_Code_Rok K) rfl (Orc.nil _ _ _) (by kernel_rfl) (fun _ _ => by kernel_rfl)
noncomputable def ref01_Code_s0_se (K : Nat) : SE := stmtN [(0, .int .i64), (1, .sl), (8, .sl), (22, .bool)] [(8, .sl)] [(8, 9), (23, 26)] (fun x w => ref01_Code_s0 K x.1 x.2.1 x.2.2.1 x.2.2.2.1 w)
theorem ref01_Code_s0_se_ok (K : Nat) (R : Rg) (h : subRB [(8, 9), (23, 26)] R = true) : (ref01_Code_s0_se K).Ok prog R (cd (bodyOf f45) [1, 1, 1, 1, 0, 1]) := stmtN_ok (Li := [(0, .int .i64), (1, .sl), (8, .sl), (22, .bool)]) (Lo := [(8, .sl)]) (S := (fun x w => ref01_Code_s0 K x.1 x.2.1 x.2.2.1 x.2.2.2.1 w)) (ref01_Code_s0_ok K) (subR_of h)
theorem ref01_Code_s2_ok (K : Nat) : StmtNOk prog [(8, .sl), (11, .int .i64), (12, .int .u8), (34, .bool)] [(12, .int .u8)] [(12, 13), (35, 39)] (fun x w => ref01_Code_s2 K x.1 x.2.1 x.2.2.1 x.2.2.2.1 w) (cd (bodyOf f45) [1, 1, 1, 1, 1, 1, 1, 0, 1, 0, 0, 1, 0, 0, 1, 0, 1]) :=
    mk_stmtN (O := tabL []) (root := (bodyOf f45)) (π := [1, 1, 1, 1, 1, 1, 1, 0, 1, 0, 0, 1, 0, 0, 1, 0, 1]) (Li := [(8, .sl), (11, .int .i64), (12, .int .u8), (34, .bool)]) (Lo := [(12, .int .u8)]) (S := (fun x w => ref01_Code_s2 K x.1 x.2.1 x.2.2.1 x.2.2.2.1 w)) (ref01_Code_Eok K) (ref01_Code_Rok K) rfl (Orc.nil _ _ _) (by kernel_rfl) (fun _ _ => by kernel_rfl)
noncomputable def ref01_Code_s2_se (K : Nat) : SE := stmtN [(8, .sl), (11, .int .i64), (12, .int .u8), (34, .bool)] [(12, .int .u8)] [(12, 13), (35, 39)] (fun x w => ref01_Code_s2 K x.1 x.2.1 x.2.2.1 x.2.2.2.1 w)
theorem ref01_Code_s2_se_ok (K : Nat) (R : Rg) (h : subRB [(12, 13), (35, 39)] R = true) : (ref01_Code_s2_se K).Ok prog R (cd (bodyOf f45) [1, 1, 1, 1, 1, 1, 1, 0, 1, 0, 0, 1, 0, 0, 1, 0, 1]) := stmtN_ok (Li := [(8, .sl), (11, .int .i64), (12, .int .u8), (34, .bool)]) (Lo := [(12, .int .u8)]) (S := (fun x w => ref01_Code_s2 K x.1 x.2.1 x.2.2.1 x.2.2.2.1 w)) (ref01_Code_s2_ok K) (subR_of h)
theorem ref01_Code_l1_ok (K : Nat) (n : Nat) : StmtNOk prog [(0, .int .i64), (2, .sl), (7, .int .i64), (8, .sl), (9, .sl), (10, .sl), (11, .int .i64)] [(9, .sl), (10, .sl)] [(9, 13), (26, 49)] ((fun n x w => ref01_Code_l1 K n x.1 x.2.1 x.2.2.1 x.2.2.2.1 x.2.2.2.2.1 x.2.2.2.2.2.1 x.2.2.2.2.2.2.1 w) n) (.block 0 (.loop (cd (bodyOf f45) [1, 1, 1, 1, 1, 1, 1, 0, 1, 0, 0]))) :=
    mk_loopN (O := tabL [([1, 1, 1, 1, 1, 1, 1, 0, 1, 0, 0, 1, 0, 0, 1, 0, 1], ref01_Code_s2_se K)]) (root := (bodyOf f45)) (π := [1, 1, 1, 1, 1, 1, 1, 0, 1, 0, 0]) (id := 0) (Li := [(0, .int .i64), (2, .sl), (7, .int .i64), (8, .sl), (9, .sl), (10, .sl), (11, .int .i64)]) (Lo := [(9, .sl), (10, .sl)]) (S := (fun n x w => ref01_Code_l1 K n x.1 x.2.1 x.2.2.1 x.2.2.2.1 x.2.2.2.2.1 x.2.2.2.2.2.1 x.2.2.2.2.2.2.1 w)) (body := cd (bodyOf f45) [1, 1, 1, 1, 1, 1, 1, 0, 1, 0, 0]) (ref01_Code_Eok K) (ref01_Code_Rok K) rfl (Orc.cons (by kernel_rfl) (ref01_Code_s2_se_ok K [(9, 13), (26, 49)] (by kernel_rfl)) (Orc.nil _ _ _)) (by kernel_rfl) (fun _ _ => by kernel_rfl) (fun _ _ _ => by kernel_rfl) n
noncomputable def ref01_Code_l1_se (K : Nat) : SE := stmtN [(0, .int .i64), (2, .sl), (7, .int .i64), (8, .sl), (9, .sl), (10, .sl), (11, .int .i64)] [(9, .sl), (10, .sl)] [(9, 13), (26, 49)] (fun x w => ref01_Code_l1 K K x.1 x.2.1 x.2.2.1 x.2.2.2.1 x.2.2.2.2.1 x.2.2.2.2.2.1 x.2.2.2.2.2.2.1 w)
theorem ref01_Code_l1_se_ok (K : Nat) (R : Rg) (h : subRB [(9, 13), (26, 49)] R = true) : (ref01_Code_l1_se K).Ok prog R (.block 0 (.loop (cd (bodyOf f45) [1, 1, 1, 1, 1, 1, 1, 0, 1, 0, 0]))) := stmtN_ok (Li := [(0, .int .i64), (2, .sl), (7, .int .i64), (8, .sl), (9, .sl), (10, .sl), (11, .int .i64)]) (Lo := [(9, .sl), (10, .sl)]) (S := (fun x w => ref01_Code_l1 K K x.1 x.2.1 x.2.2.1 x.2.2.2.1 x.2.2.2.2.1 x.2.2.2.2.2.1 x.2.2.2.2.2.2.1 w)) (ref01_Code_l1_ok K K) (subR_of h)
theorem ref01_Code_facts : FunFacts prog 45 f45 (bodyOf f45) [(0, .int .i64), (1, .sl), (2, .sl)] [(0, 61)] := ⟨func45, by kernel_rfl, by kernel_rfl, by kernel_rfl, by kernel_rfl, by kernel_rfl⟩
theorem ref01_Code_calls (K : Nat) (x : TT [(0, .int .i64), (1, .sl), (2, .sl)]) (w : World) (y : TR [.sl]) (w2 : World) (h : ref01_Code K x.1 x.2.1 x.2.2.1 w = some (y, w2)) : Calls prog 45 (encA [(0, .int .i64), (1, .sl), (2, .sl)] x).toArray w (fun e w3 => e = .returned (resV (encR [.sl] y)) ∧ w3 = w2) :=
    mk_fun (O := tabL [([1, 1, 1, 1, 0, 1], ref01_Code_s0_se K), ([1, 1, 1, 1, 1, 1, 1, 0, 1], ref01_Code_l1_se K), ([1, 1, 1, 1, 1, 1, 1, 0, 1, 0, 0, 1, 0, 0, 1, 0, 1], ref01_Code_s2_se K)]) (Lp := [(0, .int .i64), (1, .sl), (2, .sl)]) (Rt := [.sl]) (S := (fun x w => ref01_Code K x.1 x.2.1 x.2.2.1 w)) (ref01_Code_Eok K) (ref01_Code_Rok K) rfl ref01_Code_facts (Orc.cons (by kernel_rfl) (ref01_Code_s0_se_ok K [(0, 61)] (by kernel_rfl)) (Orc.cons (by kernel_rfl) (ref01_Code_l1_se_ok K [(0, 61)] (by kernel_rfl)) (Orc.cons (by kernel_rfl) (ref01_Code_s2_se_ok K [(0, 61)] (by kernel_rfl)) (Orc.nil _ _ _)))) (fun _ _ => by kernel_rfl) x w y w2 h
noncomputable def ref01_Code_ce (K : Nat) : CE := funE [(0, .int .i64), (1, .sl), (2, .sl)] [.sl] (fun x w => ref01_Code K x.1 x.2.1 x.2.2.1 w)
theorem ref01_Code_ok (K : Nat) : (ref01_Code_ce K).Ok prog 45 := funE_ok (Rt := [.sl]) (S := (fun x w => ref01_Code K x.1 x.2.1 x.2.2.1 w)) ref01_Code_facts fun x w y w2 h => ref01_Code_calls K x w y w2 h

noncomputable def ref06_Spring_update_E (K : Nat) : List (Nat × CE) := [(45, ref01_Code_ce K)]
theorem ref06_Spring_update_Eok (K : Nat) : Env.Ok prog (tab (ref06_Spring_update_E K)) := (Env.cons (ref01_Code_ok K) (Env.nil _))
noncomputable def ref06_Spring_update_R (K : Nat) : List (Nat × RE) := []
theorem ref06_Spring_update_Rok (K : Nat) : REnv.Ok prog (tab (ref06_Spring_update_R K)) := (REnv.nil _)
noncomputable def ref06_Spring_update_s1 (K : Nat) (x1 : Sl) (mark4 : Int) (w : World) : Option ((Bool × Unit) × World) :=
  if (mark4 == 1) = true then (some (((((x1.len : Nat) : Int) == 0), ()), w)) else (some ((false, ()), w))
noncomputable def ref06_Spring_update_l0_b (K : Nat) (rec : Option Addr → Sl → Int → World → Option ((Out (Unit) (Unit)) × World)) (s0 : Option Addr) (x1 : Sl) (mark4 : Int) (w : World) : Option ((Out (Unit) (Unit)) × World) :=
  if (decide (mark4 < 2)) = true then (bnd (ref06_Spring_update_s1 K x1 mark4 w) fun y_1 w_2 =>
  if y_1.1 = true then (some (.ret (), w_2)) else ((s0).bind fun p_3 =>
  (ldS (p_3.add 4) w_2).bind fun v_4 =>
  bnd (apd prog 22 22 (.slice none 0 0) (.slice v_4.a v_4.len v_4.cap) w_2) fun s_5 w_6 =>
  bnd (bldS prog 22 1 #[(0, (.int .u8 (IntKind.u8.wrap mark4)))] w_6) fun s_7 w_8 =>
  bnd (apd prog 22 22 (.slice s_5.a s_5.len s_5.cap) (.slice s_7.a s_7.len s_7.cap) w_8) fun s_9 w_10 =>
  bnd (apd prog 22 22 (.slice s_9.a s_9.len s_9.cap) (.slice x1.a x1.len x1.cap) w_10) fun s_11 w_12 =>
  (s0).bind fun p_13 =>
  (s0).bind fun p_14 =>
  (ldI .i64 (p_13.add 0) w_12.drew).bind fun v_15 =>
  (ldS (p_14.add 3) w_12.drew).bind fun v_16 =>
  bnd (ref01_Code K v_15 v_16 s_11 w_12.drew) fun r_17 w_18 =>
  (s0).bind fun p_19 =>
  (stC (p_19.add 3) (.slice r_17.1.a r_17.1.len r_17.1.cap) w_18).bind fun w_20 =>
  (s0).bind fun p_21 =>
  (s0).bind fun p_22 =>
  (s0).bind fun p_23 =>
  (ldI .i64 (p_21.add 0) w_20.drew).bind fun v_24 =>
  (ldS (p_22.add 3) w_20.drew).bind fun v_25 =>
  (ldS (p_23.add 4) w_20.drew).bind fun v_26 =>
  bnd (ref01_Code K v_24 v_25 v_26 w_20.drew) fun r_27 w_28 =>
  (s0).bind fun p_29 =>
  (stC (p_29.add 4) (.slice r_27.1.a r_27.1.len r_27.1.cap) w_28).bind fun w_30 =>
  rec s0 x1 (IntKind.i64.wrap (mark4 + 1)) w_30)) else (some (.norm (), w))
noncomputable def ref06_Spring_update_l0 (K : Nat) (n : Nat) : Option Addr → Sl → Int → World → Option ((Out (Unit) (Unit)) × World) := iter (fun _ _ _ _ => none) (ref06_Spring_update_l0_b K) n
/-- (*coffer/cofferref06.Spring).update -/
noncomputable def ref06_Spring_update (K : Nat) (s0 : Option Addr) (x1 : Sl) (w : World) : Option ((Unit) × World) :=
  bnd (ref06_Spring_update_l0 K K s0 x1 0 w) fun y_31 w_32 =>
  (match y_31 with
  | .norm z_33n => (some ((), w_32))
  | .ret z_33r => (some ((), w_32)))
theorem ref06_Spring_update_s1_ok (K : Nat) : StmtNOk prog [(1, .sl), (4, .int .i64)] [(16, .bool)] [(10, 17)] (fun x w => ref06_Spring_update_s1 K x.1 x.2.1 w) (cd (bodyOf f44) [1, 0, 0, 1, 0, 0, 0, 0]) :=
    mk_stmtN (O := tabL []) (root := (bodyOf f44)) (π := [1, 0, 0, 1, 0, 0, 0, 0]) (Li := [(1, .sl), (4, .int .i64)]) (Lo := [(16, .bool)]) (S := (fun x w => ref06_Spring_update_s1 K x.1 x.2.1 w)) (ref06_Spring_update_Eok K) (ref06_Spring_update_Rok K) rfl (Orc.nil _ _ _) (by kernel_rfl) (fun _ _ => by kernel_rfl)
noncomputable def ref06_Spring_update_s1_se (K : Nat) : SE := stmtN [(1, .sl), (4, .int .i64)] [(16, .bool)] [(10, 17)] (fun x w => ref06_Spring_update_s1 K x.1 x.2.1 w)
theorem ref06_Spring_update_s1_se_ok (K : Nat) (R : Rg) (h : subRB [(10, 17)] R = true) : (ref06_Spring_update_s1_se K).Ok prog R (cd (bodyOf f44) [1, 0, 0, 1, 0, 0, 0, 0]) := stmtN_ok (Li := [(1, .sl), (4, .int .i64)]) (Lo := [(16, .bool)]) (S := (fun x w => ref06_Spring_update_s1 K x.1 x.2.1 w)) (ref06_Spring_update_s1_ok K) (subR_of h)
theorem ref06_Spring_update_l0_ok (K : Nat) (n : Nat) : StmtOk prog [(0, .ptr), (1, .sl), (4, .int .i64)] [] [] [(4, 60)] ((fun n x w => ref06_Spring_update_l0 K n x.1 x.2.1 x.2.2.1 w) n) (.block 0 (.loop (cd (bodyOf f44) [1, 0, 0]))) :=
    mk_loop (O := tabL [([1, 0, 0, 1, 0, 0, 0, 0], ref06_Spring_update_s1_se K)]) (root := (bodyOf f44)) (π := [1, 0, 0]) (id := 0) (Li := [(0, .ptr), (1, .sl), (4, .int .i64)]) (Lo := []) (Lr := []) (S := (fun n x w => ref06_Spring_update_l0 K n x.1 x.2.1 x.2.2.1 w)) (body := cd (bodyOf f44) [1, 0, 0]) (ref06_Spring_update_Eok K) (ref06_Spring_update_Rok K) rfl (Orc.cons (by kernel_rfl) (ref06_Spring_update_s1_se_ok K [(4, 60)] (by kernel_rfl)) (Orc.nil _ _ _)) (by kernel_rfl) (fun _ _ => by kernel_rfl) (fun _ _ _ => by kernel_rfl) n
noncomputable def ref06_Spring_update_l0_se (K : Nat) : SE := stmt [(0, .ptr), (1, .sl), (4, .int .i64)] [] [] [(4, 60)] (fun x w => ref06_Spring_update_l0 K K x.1 x.2.1 x.2.2.1 w)
theorem ref06_Spring_update_l0_se_ok (K : Nat) (R : Rg) (h : subRB [(4, 60)] R = true) : (ref06_Spring_update_l0_se K).Ok prog R (.block 0 (.loop (cd (bodyOf f44) [1, 0, 0]))) := stmt_ok (Li := [(0, .ptr), (1, .sl), (4, .int .i64)]) (Lo := []) (Lr := []) (S := (fun x w => ref06_Spring_update_l0 K K x.1 x.2.1 x.2.2.1 w)) (ref06_Spring_update_l0_ok K K) (subR_of h)
theorem ref06_Spring_update_facts : FunFacts prog 44 f44 (bodyOf f44) [(0, .ptr), (1, .sl)] [(0, 60)] := ⟨func44, by kernel_rfl, by kernel_rfl, by kernel_rfl, by kernel_rfl, by kernel_rfl⟩
theorem ref06_Spring_update_calls (K : Nat) (x : TT [(0, .ptr), (1, .sl)]) (w : World) (y : TR []) (w2 : World) (h : ref06_Spring_update K x.1 x.2.1 w = some (y, w2)) : Calls prog 44 (encA [(0, .ptr), (1, .sl)] x).toArray w (fun e w3 => e = .returned (resV (encR [] y)) ∧ w3 = w2) :=
    mk_fun (O := tabL [([1], ref06_Spring_update_l0_se K), ([1, 0, 0, 1, 0, 0, 0, 0], ref06_Spring_update_s1_se K)]) (Lp := [(0, .ptr), (1, .sl)]) (Rt := []) (S := (fun x w => ref06_Spring_update K x.1 x.2.1 w)) (ref06_Spring_update_Eok K) (ref06_Spring_update_Rok K) rfl ref06_Spring_update_facts (Orc.cons (by kernel_rfl) (ref06_Spring_update_l0_se_ok K [(0, 60)] (by kernel_rfl)) (Orc.cons (by kernel_rfl) (ref06_Spring_update_s1_se_ok K [(0, 60)] (by kernel_rfl)) (Orc.nil _ _ _))) (fun _ _ => by kernel_rfl) x w y w2 h
noncomputable def ref06_Spring_update_ce (K : Nat) : CE := funE [(0, .ptr), (1, .sl)] [] (fun x w => ref06_Spring_update K x.1 x.2.1 w)
theorem ref06_Spring_update_ok (K : Nat) : (ref06_Spring_update_ce K).Ok prog 44 := funE_ok (Rt := []) (S := (fun x w => ref06_Spring_update K x.1 x.2.1 w)) ref06_Spring_update_facts fun x w y w2 h => ref06_Spring_update_calls K x w y w2 h

noncomputable def ref06_New_E (K : Nat) : List (Nat × CE) := [(43, ref06_joined_ce K), (44, ref06_Spring_update_ce K)]
theorem ref06_New_Eok (K : Nat) : Env.Ok prog (tab (ref06_New_E K)) := (Env.cons (ref06_joined_ok K) (Env.cons (ref06_Spring_update_ok K) (Env.nil _)))
noncomputable def ref06_New_R (K : Nat) : List (Nat × RE) := [(42, ref01_Size_re)]
theorem ref06_New_Rok (K : Nat) : REnv.Ok prog (tab (ref06_New_R K)) := (REnv.cons (ref01_Size_ok) (REnv.nil _))
noncomputable def ref06_New_s1 (K : Nat) (limit1 : Int) (w : World) : Option ((Bool × Unit) × World) :=
  if (decide (limit1 < 1)) = true then (some ((true, ()), w)) else (some (((decide (limit1 > 16777216)), ()), w))
noncomputable def ref06_New_s2 (K : Nat) (entropy2 : Sl) (w : World) : Option ((Bool × Unit) × World) :=
  if (decide (((entropy2.len : Nat) : Int) < 16)) = true then (some ((true, ()), w)) else (some (((decide (((entropy2.len : Nat) : Int) > 65536)), ()), w))
noncomputable def ref06_New_s0 (K : Nat) (limit1 : Int) (entropy2 : Sl) (nonce3 : Sl) (personal4 : Sl) (n12 : Int) (w : World) : Option ((Out (Unit) ((Option Addr) × Int × Unit)) × World) :=
  if (n12 == 0) = true then (some (.ret (none, 10, ()), w)) else (bnd (ref06_New_s1 K limit1 w) fun y_2 w_3 =>
  if y_2.1 = true then (some (.ret (none, 2, ()), w_3)) else (bnd (ref06_New_s2 K entropy2 w_3) fun y_4 w_5 =>
  if y_4.1 = true then (some (.ret (none, 60, ()), w_5)) else (if (decide (((nonce3.len : Nat) : Int) > 65536)) = true then (some (.ret (none, 4, ()), w_5)) else (if (decide (((personal4.len : Nat) : Int) > 65536)) = true then (some (.ret (none, 4, ()), w_5)) else (some (.norm (), w_5))))))
noncomputable def ref06_New_l3_b (K : Nat) (rec : Sl → Sl → Sl → Int → Addr → Int → World → Option ((Unit) × World)) (entropy2 : Sl) (nonce3 : Sl) (personal4 : Sl) (n12 : Int) (s13 : Addr) (i14 : Int) (w : World) : Option ((Unit) × World) :=
  if (decide (i14 < n12)) = true then ((ldS (s13.add 4) w).bind fun v_14 =>
  bnd (bldS prog 22 1 #[(0, (.int .u8 1))] w) fun s_15 w_16 =>
  bnd (apd prog 22 22 (.slice v_14.a v_14.len v_14.cap) (.slice s_15.a s_15.len s_15.cap) w_16) fun s_17 w_18 =>
  (stC (s13.add 4) (.slice s_17.a s_17.len s_17.cap) w_18).bind fun w_19 =>
  rec entropy2 nonce3 personal4 n12 s13 (IntKind.i64.wrap (i14 + 1)) w_19) else (some ((), w))
noncomputable def ref06_New_l3 (K : Nat) (n : Nat) : Sl → Sl → Sl → Int → Addr → Int → World → Option ((Unit) × World) := iter (fun _ _ _ _ _ _ _ => none) (ref06_New_l3_b K) n
/-- coffer/cofferref06.New -/
noncomputable def ref06_New (K : Nat) (hash0 : Int) (limit1 : Int) (entropy2 : Sl) (nonce3 : Sl) (personal4 : Sl) (w : World) : Option (((Option Addr) × Int × Unit) × World) :=
  (ref01_Size hash0).bind fun r_1 =>
  bnd (ref06_New_s0 K limit1 entropy2 nonce3 personal4 r_1.1 w) fun y_6 w_7 =>
  (match y_6 with
  | .norm z_8n => (bnd (mkS prog 22 (.int .i64 r_1.1) (.int .i64 r_1.1) w_7) fun s_9 w_10 =>
  (prog.built 84 [(0, (.int .i64 hash0)), (1, (.int .i64 limit1)), (3, (.slice s_9.a s_9.len s_9.cap))]).bind fun cs_11 =>
  bnd (newB cs_11 84 w_10) fun p_12 w_13 =>
  bnd (ref06_New_l3 K K entropy2 nonce3 personal4 r_1.1 p_12 0 w_13) fun y_20 w_21 =>
  bnd (bldS prog 32 3 #[(0, (.slice entropy2.a entropy2.len entropy2.cap)), (1, (.slice nonce3.a nonce3.len nonce3.cap)), (2, (.slice personal4.a personal4.len personal4.cap))] w_21) fun s_22 w_23 =>
  bnd (ref06_joined K s_22 w_23) fun r_24 w_25 =>
  bnd (ref06_Spring_update K (some p_12) r_24.1 w_25) fun r_26 w_27 =>
  some (((some p_12), 0, ()), w_27))
  | .ret z_8r => (some ((z_8r.1, z_8r.2.1, ()), w_7)))
theorem ref06_New_s1_ok (K : Nat) : StmtNOk prog [(1, .int .i64)] [(21, .bool)] [(21, 28)] (fun x w => ref06_New_s1 K x.1 w) (cd (bodyOf f26) [1, 1, 0, 0, 1, 1, 0]) :=
    mk_stmtN (O := tabL []) (root := (bodyOf f26)) (π := [1, 1, 0, 0, 1, 1, 0]) (Li := [(1, .int .i64)]) (Lo := [(21, .bool)]) (S := (fun x w => ref06_New_s1 K x.1 w)) (ref06_New_Eok K) (ref06_New_Rok K) rfl (Orc.nil _ _ _) (by kernel_rfl) (fun _ _ => by kernel_rfl)
noncomputable def ref06_New_s1_se (K : Nat) : SE := stmtN [(1, .int .i64)] [(21, .bool)] [(21, 28)] (fun x w => ref06_New_s1 K x.1 w)
theorem ref06_New_s1_se_ok (K : Nat) (R : Rg) (h : subRB [(21, 28)] R = true) : (ref06_New_s1_se K).Ok prog R (cd (bodyOf f26) [1, 1, 0, 0, 1, 1, 0]) := stmtN_ok (Li := [(1, .int .i64)]) (Lo := [(21, .bool)]) (S := (fun x w => ref06_New_s1 K x.1 w)) (ref06_New_s1_ok K) (subR_of h)
theorem ref06_New_s2_ok (K : Nat) : StmtNOk prog [(2, .sl)] [(28, .bool)] [(28, 37)] (fun x w => ref06_New_s2 K x.1 w) (cd (bodyOf f26) [1, 1, 0, 0, 1, 1, 1, 1, 0]) :=
    mk_stmtN (O := tabL []) (root := (bodyOf f26)) (π := [1, 1, 0, 0, 1, 1, 1, 1, 0]) (Li := [(2, .sl)]) (Lo := [(28, .bool)]) (S := (fun x w => ref06_New_s2 K x.1 w)) (ref06_New_Eok K) (ref06_New_Rok K) rfl (Orc.nil _ _ _) (by kernel_rfl) (fun _ _ => by kernel_rfl)
noncomputable def ref06_New_s2_se (K : Nat) : SE := stmtN [(2, .sl)] [(28, .bool)] [(28, 37)] (fun x w => ref06_New_s2 K x.1 w)
theorem ref06_New_s2_se_ok (K : Nat) (R : Rg) (h : subRB [(28, 37)] R = true) : (ref06_New_s2_se K).Ok prog R (cd (bodyOf f26) [1, 1, 0, 0, 1, 1, 1, 1, 0]) := stmtN_ok (Li := [(2, .sl)]) (Lo := [(28, .bool)]) (S := (fun x w => ref06_New_s2 K x.1 w)) (ref06_New_s2_ok K) (subR_of h)
theorem ref06_New_s0_ok (K : Nat) : StmtOk prog [(1, .int .i64), (2, .sl), (3, .sl), (4, .sl), (12, .int .i64)] [] [(10, .ptr), (11, .int .i64)] [(10, 12), (18, 46)] (fun x w => ref06_New_s0 K x.1 x.2.1 x.2.2.1 x.2.2.2.1 x.2.2.2.2.1 w) (cd (bodyOf f26) [1, 1, 0]) :=
    mk_stmt (O := tabL [([1, 1, 0, 0, 1, 1, 0], ref06_New_s1_se K), ([1, 1, 0, 0, 1, 1, 1, 1, 0], ref06_New_s2_se K)]) (root := (bodyOf f26)) (π := [1, 1, 0]) (Li := [(1, .int .i64), (2, .sl), (3, .sl), (4, .sl), (12, .int .i64)]) (Lo := []) (Lr := [(10, .ptr), (11, .int .i64)]) (S := (fun x w => ref06_New_s0 K x.1 x.2.1 x.2.2.1 x.2.2.2.1 x.2.2.2.2.1 w)) (ref06_New_Eok K) (ref06_New_Rok K) rfl (Orc.cons (by kernel_rfl) (ref06_New_s1_se_ok K [(10, 12), (18, 46)] (by kernel_rfl)) (Orc.cons (by kernel_rfl) (ref06_New_s2_se_ok K [(10, 12), (18, 46)] (by kernel_rfl)) (Orc.nil _ _ _))) (by kernel_rfl) (fun _ _ => by kernel_rfl)
noncomputable def ref06_New_s0_se (K : Nat) : SE := stmt [(1, .int .i64), (2, .sl), (3, .sl), (4, .sl), (12, .int .i64)] [] [(10, .ptr), (11, .int .i64)] [(10, 12), (18, 46)] (fun x w => ref06_New_s0 K x.1 x.2.1 x.2.2.1 x.2.2.2.1 x.2.2.2.2.1 w)
theorem ref06_New_s0_se_ok (K : Nat) (R : Rg) (h : subRB [(10, 12), (18, 46)] R = true) : (ref06_New_s0_se K).Ok prog R (cd (bodyOf f26) [1, 1, 0]) := stmt_ok (Li := [(1, .int .i64), (2, .sl), (3, .sl), (4, .sl), (12, .int .i64)]) (Lo := []) (Lr := [(10, .ptr), (11, .int .i64)]) (S := (fun x w => ref06_New_s0 K x.1 x.2.1 x.2.2.1 x.2.2.2.1 x.2.2.2.2.1 w)) (ref06_New_s0_ok K) (subR_of h)
theorem ref06_New_l3_ok (K : Nat) (n : Nat) : StmtNOk prog [(2, .sl), (3, .sl), (4, .sl), (12, .int .i64), (13, .addr), (14, .int .i64)] [] [(14, 15), (52, 66)] ((fun n x w => ref06_New_l3 K n x.1 x.2.1 x.2.2.1 x.2.2.2.1 x.2.2.2.2.1 x.2.2.2.2.2.1 w) n) (.block 1 (.loop (cd (bodyOf f26) [1, 1, 1, 1, 0, 1, 0, 0]))) :=
    mk_loopN (O := tabL []) (root := (bodyOf f26)) (π := [1, 1, 1, 1, 0, 1, 0, 0]) (id := 1) (Li := [(2, .sl), (3, .sl), (4, .sl), (12, .int .i64), (13, .addr), (14, .int .i64)]) (Lo := []) (S := (fun n x w => ref06_New_l3 K n x.1 x.2.1 x.2.2.1 x.2.2.2.1 x.2.2.2.2.1 x.2.2.2.2.2.1 w)) (body := cd (bodyOf f26) [1, 1, 1, 1, 0, 1, 0, 0]) (ref06_New_Eok K) (ref06_New_Rok K) rfl (Orc.nil _ _ _) (by kernel_rfl) (fun _ _ => by kernel_rfl) (fun _ _ _ => by kernel_rfl) n
noncomputable def ref06_New_l3_se (K : Nat) : SE := stmtN [(2, .sl), (3, .sl), (4, .sl), (12, .int .i64), (13, .addr), (14, .int .i64)] [] [(14, 15), (52, 66)] (fun x w => ref06_New_l3 K K x.1 x.2.1 x.2.2.1 x.2.2.2.1 x.2.2.2.2.1 x.2.2.2.2.2.1 w)
theorem ref06_New_l3_se_ok (K : Nat) (R : Rg) (h : subRB [(14, 15), (52, 66)] R = true) : (ref06_New_l3_se K).Ok prog R (.block 1 (.loop (cd (bodyOf f26) [1, 1, 1, 1, 0, 1, 0, 0]))) := stmtN_ok (Li := [(2, .sl), (3, .sl), (4, .sl), (12, .int .i64), (13, .addr), (14, .int .i64)]) (Lo := []) (S := (fun x w => ref06_New_l3 K K x.1 x.2.1 x.2.2.1 x.2.2.2.1 x.2.2.2.2.1 x.2.2.2.2.2.1 w)) (ref06_New_l3_ok K K) (subR_of h)
theorem ref06_New_facts : FunFacts prog 26 f26 (bodyOf f26) [(0, .int .i64), (1, .int .i64), (2, .sl), (3, .sl), (4, .sl)] [(0, 75)] := ⟨func26, by kernel_rfl, by kernel_rfl, by kernel_rfl, by kernel_rfl, by kernel_rfl⟩
theorem ref06_New_calls (K : Nat) (x : TT [(0, .int .i64), (1, .int .i64), (2, .sl), (3, .sl), (4, .sl)]) (w : World) (y : TR [.ptr, .int .i64]) (w2 : World) (h : ref06_New K x.1 x.2.1 x.2.2.1 x.2.2.2.1 x.2.2.2.2.1 w = some (y, w2)) : Calls prog 26 (encA [(0, .int .i64), (1, .int .i64), (2, .sl), (3, .sl), (4, .sl)] x).toArray w (fun e w3 => e = .returned (resV (encR [.ptr, .int .i64] y)) ∧ w3 = w2) :=
    mk_fun (O := tabL [([1, 1, 0], ref06_New_s0_se K), ([1, 1, 0, 0, 1, 1, 0], ref06_New_s1_se K), ([1, 1, 0, 0, 1, 1, 1, 1, 0], ref06_New_s2_se K), ([1, 1, 1, 1, 0, 1], ref06_New_l3_se K)]) (Lp := [(0, .int .i64), (1, .int .i64), (2, .sl), (3, .sl), (4, .sl)]) (Rt := [.ptr, .int .i64]) (S := (fun x w => ref06_New K x.1 x.2.1 x.2.2.1 x.2.2.2.1 x.2.2.2.2.1 w)) (ref06_New_Eok K) (ref06_New_Rok K) rfl ref06_New_facts (Orc.cons (by kernel_rfl) (ref06_New_s0_se_ok K [(0, 75)] (by kernel_rfl)) (Orc.cons (by kernel_rfl) (ref06_New_s1_se_ok K [(0, 75)] (by kernel_rfl)) (Orc.cons (by kernel_rfl) (ref06_New_s2_se_ok K [(0, 75)] (by kernel_rfl)) (Orc.cons (by kernel_rfl) (ref06_New_l3_se_ok K [(0, 75)] (by kernel_rfl)) (Orc.nil _ _ _))))) (fun _ _ => by kernel_rfl) x w y w2 h
noncomputable def ref06_New_ce (K : Nat) : CE := funE [(0, .int .i64), (1, .int .i64), (2, .sl), (3, .sl), (4, .sl)] [.ptr, .int .i64] (fun x w => ref06_New K x.1 x.2.1 x.2.2.1 x.2.2.2.1 x.2.2.2.2.1 w)
theorem ref06_New_ok (K : Nat) : (ref06_New_ce K).Ok prog 26 := funE_ok (Rt := [.ptr, .int .i64]) (S := (fun x w => ref06_New K x.1 x.2.1 x.2.2.1 x.2.2.2.1 x.2.2.2.2.1 w)) ref06_New_facts fun x w y w2 h => ref06_New_calls K x w y w2 h

noncomputable def book_WholeBytes_E (K : Nat) : List (Nat × CE) := [(11, book_SameBytes_ce K)]
theorem book_WholeBytes_Eok (K : Nat) : Env.Ok prog (tab (book_WholeBytes_E K)) := (Env.cons (book_SameBytes_ok K) (Env.nil _))
noncomputable def book_WholeBytes_R (K : Nat) : List (Nat × RE) := []
theorem book_WholeBytes_Rok (K : Nat) : REnv.Ok prog (tab (book_WholeBytes_R K)) := (REnv.nil _)
noncomputable def book_WholeBytes_l0_b (K : Nat) (rec : Int → Sl → Int → World → Option ((Out (Unit) (Bool × Unit)) × World)) (n5 : Int) (all6 : Sl) (i7 : Int) (w : World) : Option ((Out (Unit) (Bool × Unit)) × World) :=
  if (decide (i7 < 70)) = true then ((all6.a).bind fun p_3 =>
  if (0 : Int) ≤ (IntKind.i64.wrap (n5 + i7)) ∧ (IntKind.i64.wrap (n5 + i7)) < ((all6.len : Nat) : Int) then ((ldI .u8 (p_3.add ((Int.toNat (IntKind.i64.wrap (n5 + i7))) * 1)) w).bind fun v_4 =>
  if (v_4 != (IntKind.u8.wrap (IntKind.i64.wrap (181 + i7)))) = true then (some (.ret (false, ()), w)) else (rec n5 all6 (IntKind.i64.wrap (i7 + 1)) w)) else none) else (some (.norm (), w))
noncomputable def book_WholeBytes_l0 (K : Nat) (n : Nat) : Int → Sl → Int → World → Option ((Out (Unit) (Bool × Unit)) × World) := iter (fun _ _ _ _ => none) (book_WholeBytes_l0_b K) n
/-- coffer/cofferbook.WholeBytes -/
noncomputable def book_WholeBytes (K : Nat) (c0 : Sl) (l1 : Sl) (w : World) : Option ((Bool × Unit) × World) :=
  bnd (book_SameBytes K c0 l1 w) fun r_1 w_2 =>
  if (!r_1.1) = true then (some ((false, ()), w_2)) else (if (0 : Int) ≤ (IntKind.i64.wrap (((c0.len : Nat) : Int) + 70)) ∧ (IntKind.i64.wrap (((c0.len : Nat) : Int) + 70)) ≤ ((c0.cap : Nat) : Int) then (bnd (book_WholeBytes_l0 K K ((c0.len : Nat) : Int) ⟨(sla c0.a 0 c0.cap 1), ((Int.toNat ((IntKind.i64.wrap (((c0.len : Nat) : Int) + 70)))) - 0), (c0.cap - 0)⟩ 0 w_2) fun y_5 w_6 =>
  (match y_5 with
  | .norm z_7n => (some ((true, ()), w_6))
  | .ret z_7r => (some ((z_7r.1, ()), w_6)))) else none)
theorem book_WholeBytes_l0_ok (K : Nat) (n : Nat) : StmtOk prog [(5, .int .i64), (6, .sl), (7, .int .i64)] [] [(4, .bool)] [(4, 5), (7, 8), (18, 32)] ((fun n x w => book_WholeBytes_l0 K n x.1 x.2.1 x.2.2.1 w) n) (.block 0 (.loop (cd (bodyOf f27) [1, 1, 1, 1, 0, 1, 0, 0]))) :=
    mk_loop (O := tabL []) (root := (bodyOf f27)) (π := [1, 1, 1, 1, 0, 1, 0, 0]) (id := 0) (Li := [(5, .int .i64), (6, .sl), (7, .int .i64)]) (Lo := []) (Lr := [(4, .bool)]) (S := (fun n x w => book_WholeBytes_l0 K n x.1 x.2.1 x.2.2.1 w)) (body := cd (bodyOf f27) [1, 1, 1, 1, 0, 1, 0, 0]) (book_WholeBytes_Eok K) (book_WholeBytes_Rok K) rfl (Orc.nil _ _ _) (by kernel_rfl) (fun _ _ => by kernel_rfl) (fun _ _ _ => by kernel_rfl) n
noncomputable def book_WholeBytes_l0_se (K : Nat) : SE := stmt [(5, .int .i64), (6, .sl), (7, .int .i64)] [] [(4, .bool)] [(4, 5), (7, 8), (18, 32)] (fun x w => book_WholeBytes_l0 K K x.1 x.2.1 x.2.2.1 w)
theorem book_WholeBytes_l0_se_ok (K : Nat) (R : Rg) (h : subRB [(4, 5), (7, 8), (18, 32)] R = true) : (book_WholeBytes_l0_se K).Ok prog R (.block 0 (.loop (cd (bodyOf f27) [1, 1, 1, 1, 0, 1, 0, 0]))) := stmt_ok (Li := [(5, .int .i64), (6, .sl), (7, .int .i64)]) (Lo := []) (Lr := [(4, .bool)]) (S := (fun x w => book_WholeBytes_l0 K K x.1 x.2.1 x.2.2.1 w)) (book_WholeBytes_l0_ok K K) (subR_of h)
theorem book_WholeBytes_facts : FunFacts prog 27 f27 (bodyOf f27) [(0, .sl), (1, .sl)] [(0, 32)] := ⟨func27, by kernel_rfl, by kernel_rfl, by kernel_rfl, by kernel_rfl, by kernel_rfl⟩
theorem book_WholeBytes_calls (K : Nat) (x : TT [(0, .sl), (1, .sl)]) (w : World) (y : TR [.bool]) (w2 : World) (h : book_WholeBytes K x.1 x.2.1 w = some (y, w2)) : Calls prog 27 (encA [(0, .sl), (1, .sl)] x).toArray w (fun e w3 => e = .returned (resV (encR [.bool] y)) ∧ w3 = w2) :=
    mk_fun (O := tabL [([1, 1, 1, 1, 0, 1], book_WholeBytes_l0_se K)]) (Lp := [(0, .sl), (1, .sl)]) (Rt := [.bool]) (S := (fun x w => book_WholeBytes K x.1 x.2.1 w)) (book_WholeBytes_Eok K) (book_WholeBytes_Rok K) rfl book_WholeBytes_facts (Orc.cons (by kernel_rfl) (book_WholeBytes_l0_se_ok K [(0, 32)] (by kernel_rfl)) (Orc.nil _ _ _)) (fun _ _ => by kernel_rfl) x w y w2 h
noncomputable def book_WholeBytes_ce (K : Nat) : CE := funE [(0, .sl), (1, .sl)] [.bool] (fun x w => book_WholeBytes K x.1 x.2.1 w)
theorem book_WholeBytes_ok (K : Nat) : (book_WholeBytes_ce K).Ok prog 27 := funE_ok (Rt := [.bool]) (S := (fun x w => book_WholeBytes K x.1 x.2.1 w)) book_WholeBytes_facts fun x w y w2 h => book_WholeBytes_calls K x w y w2 h

noncomputable def book_SpoilBytes_E (K : Nat) : List (Nat × CE) := []
theorem book_SpoilBytes_Eok (K : Nat) : Env.Ok prog (tab (book_SpoilBytes_E K)) := (Env.nil _)
noncomputable def book_SpoilBytes_R (K : Nat) : List (Nat × RE) := []
theorem book_SpoilBytes_Rok (K : Nat) : REnv.Ok prog (tab (book_SpoilBytes_R K)) := (REnv.nil _)
noncomputable def book_SpoilBytes_l0_b (K : Nat) (rec : Sl → Int → World → Option ((Unit) × World)) (l0 : Sl) (i2 : Int) (w : World) : Option ((Unit) × World) :=
  if (decide (i2 < ((l0.len : Nat) : Int))) = true then ((l0.a).bind fun p_1 =>
  if (0 : Int) ≤ i2 ∧ i2 < ((l0.len : Nat) : Int) then ((ldI .u8 (p_1.add ((Int.toNat i2) * 1)) w).bind fun v_2 =>
  (l0.a).bind fun p_3 =>
  if (0 : Int) ≤ i2 ∧ i2 < ((l0.len : Nat) : Int) then ((stC (p_3.add ((Int.toNat i2) * 1)) (.int .u8 (bits .xor .u8 v_2 165)) w).bind fun w_4 =>
  rec l0 (IntKind.i64.wrap (i2 + 1)) w_4) else none) else none) else (some ((), w))
noncomputable def book_SpoilBytes_l0 (K : Nat) (n : Nat) : Sl → Int → World → Option ((Unit) × World) := iter (fun _ _ _ => none) (book_SpoilBytes_l0_b K) n
noncomputable def book_SpoilBytes_l1_b (K : Nat) (rec : Sl → Int → World → Option ((Sl × Unit) × World)) (l0 : Sl) (i3 : Int) (w : World) : Option ((Sl × Unit) × World) :=
  if (decide (i3 < 70)) = true then (bnd (bldS prog 22 1 #[(0, (.int .u8 (IntKind.u8.wrap (IntKind.i64.wrap ((IntKind.i64.wrap (7 * i3)) + 3)))))] w) fun s_11 w_12 =>
  bnd (apd prog 22 22 (.slice l0.a l0.len l0.cap) (.slice s_11.a s_11.len s_11.cap) w_12) fun s_13 w_14 =>
  rec s_13 (IntKind.i64.wrap (i3 + 1)) w_14) else (some ((l0, ()), w))
noncomputable def book_SpoilBytes_l1 (K : Nat) (n : Nat) : Sl → Int → World → Option ((Sl × Unit) × World) := iter (fun _ _ _ => none) (book_SpoilBytes_l1_b K) n
/-- coffer/cofferbook.SpoilBytes -/
noncomputable def book_SpoilBytes (K : Nat) (l0 : Sl) (w : World) : Option ((Unit) × World) :=
  bnd (book_SpoilBytes_l0 K K l0 0 w) fun y_5 w_6 =>
  bnd (bldS prog 22 1 #[(0, (.int .u8 1))] w_6) fun s_7 w_8 =>
  bnd (apd prog 22 22 (.slice l0.a l0.len l0.cap) (.slice s_7.a s_7.len s_7.cap) w_8) fun s_9 w_10 =>
  bnd (book_SpoilBytes_l1 K K s_9 0 w_10) fun y_15 w_16 =>
  (y_15.1.a).bind fun p_17 =>
  if (0 : Int) ≤ (IntKind.i64.wrap (((y_15.1.len : Nat) : Int) - 1)) ∧ (IntKind.i64.wrap (((y_15.1.len : Nat) : Int) - 1)) < ((y_15.1.len : Nat) : Int) then ((stC (p_17.add ((Int.toNat (IntKind.i64.wrap (((y_15.1.len : Nat) : Int) - 1))) * 1)) (.int .u8 77) w_16).bind fun w_18 =>
  some ((), w_18)) else none
theorem book_SpoilBytes_l0_ok (K : Nat) (n : Nat) : StmtNOk prog [(0, .sl), (2, .int .i64)] [] [(2, 3), (4, 18)] ((fun n x w => book_SpoilBytes_l0 K n x.1 x.2.1 w) n) (.block 0 (.loop (cd (bodyOf f15) [0, 1, 0, 0]))) :=
    mk_loopN (O := tabL []) (root := (bodyOf f15)) (π := [0, 1, 0, 0]) (id := 0) (Li := [(0, .sl), (2, .int .i64)]) (Lo := []) (S := (fun n x w => book_SpoilBytes_l0 K n x.1 x.2.1 w)) (body := cd (bodyOf f15) [0, 1, 0, 0]) (book_SpoilBytes_Eok K) (book_SpoilBytes_Rok K) rfl (Orc.nil _ _ _) (by kernel_rfl) (fun _ _ => by kernel_rfl) (fun _ _ _ => by kernel_rfl) n
noncomputable def book_SpoilBytes_l0_se (K : Nat) : SE := stmtN [(0, .sl), (2, .int .i64)] [] [(2, 3), (4, 18)] (fun x w => book_SpoilBytes_l0 K K x.1 x.2.1 w)
theorem book_SpoilBytes_l0_se_ok (K : Nat) (R : Rg) (h : subRB [(2, 3), (4, 18)] R = true) : (book_SpoilBytes_l0_se K).Ok prog R (.block 0 (.loop (cd (bodyOf f15) [0, 1, 0, 0]))) := stmtN_ok (Li := [(0, .sl), (2, .int .i64)]) (Lo := []) (S := (fun x w => book_SpoilBytes_l0 K K x.1 x.2.1 w)) (book_SpoilBytes_l0_ok K K) (subR_of h)
theorem book_SpoilBytes_l1_ok (K : Nat) (n : Nat) : StmtNOk prog [(0, .sl), (3, .int .i64)] [(0, .sl)] [(0, 1), (3, 4), (21, 32)] ((fun n x w => book_SpoilBytes_l1 K n x.1 x.2.1 w) n) (.block 2 (.loop (cd (bodyOf f15) [1, 1, 0, 1, 0, 0]))) :=
    mk_loopN (O := tabL []) (root := (bodyOf f15)) (π := [1, 1, 0, 1, 0, 0]) (id := 2) (Li := [(0, .sl), (3, .int .i64)]) (Lo := [(0, .sl)]) (S := (fun n x w => book_SpoilBytes_l1 K n x.1 x.2.1 w)) (body := cd (bodyOf f15) [1, 1, 0, 1, 0, 0]) (book_SpoilBytes_Eok K) (book_SpoilBytes_Rok K) rfl (Orc.nil _ _ _) (by kernel_rfl) (fun _ _ => by kernel_rfl) (fun _ _ _ => by kernel_rfl) n
noncomputable def book_SpoilBytes_l1_se (K : Nat) : SE := stmtN [(0, .sl), (3, .int .i64)] [(0, .sl)] [(0, 1), (3, 4), (21, 32)] (fun x w => book_SpoilBytes_l1 K K x.1 x.2.1 w)
theorem book_SpoilBytes_l1_se_ok (K : Nat) (R : Rg) (h : subRB [(0, 1), (3, 4), (21, 32)] R = true) : (book_SpoilBytes_l1_se K).Ok prog R (.block 2 (.loop (cd (bodyOf f15) [1, 1, 0, 1, 0, 0]))) := stmtN_ok (Li := [(0, .sl), (3, .int .i64)]) (Lo := [(0, .sl)]) (S := (fun x w => book_SpoilBytes_l1 K K x.1 x.2.1 w)) (book_SpoilBytes_l1_ok K K) (subR_of h)
theorem book_SpoilBytes_facts : FunFacts prog 15 f15 (bodyOf f15) [(0, .sl)] [(0, 37)] := ⟨func15, by kernel_rfl, by kernel_rfl, by kernel_rfl, by kernel_rfl, by kernel_rfl⟩
theorem book_SpoilBytes_calls (K : Nat) (x : TT [(0, .sl)]) (w : World) (y : TR []) (w2 : World) (h : book_SpoilBytes K x.1 w = some (y, w2)) : Calls prog 15 (encA [(0, .sl)] x).toArray w (fun e w3 => e = .returned (resV (encR [] y)) ∧ w3 = w2) :=
    mk_fun (O := tabL [([0, 1], book_SpoilBytes_l0_se K), ([1, 1, 0, 1], book_SpoilBytes_l1_se K)]) (Lp := [(0, .sl)]) (Rt := []) (S := (fun x w => book_SpoilBytes K x.1 w)) (book_SpoilBytes_Eok K) (book_SpoilBytes_Rok K) rfl book_SpoilBytes_facts (Orc.cons (by kernel_rfl) (book_SpoilBytes_l0_se_ok K [(0, 37)] (by kernel_rfl)) (Orc.cons (by kernel_rfl) (book_SpoilBytes_l1_se_ok K [(0, 37)] (by kernel_rfl)) (Orc.nil _ _ _))) (fun _ _ => by kernel_rfl) x w y w2 h
noncomputable def book_SpoilBytes_ce (K : Nat) : CE := funE [(0, .sl)] [] (fun x w => book_SpoilBytes K x.1 w)
theorem book_SpoilBytes_ok (K : Nat) : (book_SpoilBytes_ce K).Ok prog 15 := funE_ok (Rt := []) (S := (fun x w => book_SpoilBytes K x.1 w)) book_SpoilBytes_facts fun x w y w2 h => book_SpoilBytes_calls K x w y w2 h

noncomputable def law06_begun_E (K : Nat) : List (Nat × CE) := [(25, book_Bytes_ce K), (6, spring_New_ce K), (26, ref06_New_ce K), (27, book_WholeBytes_ce K), (15, book_SpoilBytes_ce K)]
theorem law06_begun_Eok (K : Nat) : Env.Ok prog (tab (law06_begun_E K)) := (Env.cons (book_Bytes_ok K) (Env.cons (spring_New_ok K) (Env.cons (ref06_New_ok K) (Env.cons (book_WholeBytes_ok K) (Env.cons (book_SpoilBytes_ok K) (Env.nil _))))))
noncomputable def law06_begun_R (K : Nat) : List (Nat × RE) := [(7, law06_num_re)]
theorem law06_begun_Rok (K : Nat) : REnv.Ok prog (tab (law06_begun_R K)) := (REnv.cons (law06_num_ok) (REnv.nil _))
noncomputable def law06_begun_s0 (K : Nat) (c1 : Addr) (x5 : Sl) (y6 : Sl) (z7 : Sl) (s8 : Option Addr) (e9 : Int) (t10 : Option Addr) (f11 : Int) (w : World) : Option ((Bool × Unit) × World) :=
  (law06_num e9).bind fun r_23 =>
  if (r_23.1 == f11) = true then (if (s8.isNone == t10.isNone) = true then ((ldS (c1.add 2) w).bind fun v_24 =>
  bnd (book_WholeBytes K x5 v_24 w) fun r_25 w_26 =>
  if r_25.1 = true then ((ldS (c1.add 3) w_26).bind fun v_27 =>
  bnd (book_WholeBytes K y6 v_27 w_26) fun r_28 w_29 =>
  if r_28.1 = true then ((ldS (c1.add 4) w_29).bind fun v_30 =>
  bnd (book_WholeBytes K z7 v_30 w_29) fun r_31 w_32 =>
  some ((r_31.1, ()), w_32)) else (some ((false, ()), w_29))) else (some ((false, ()), w_26))) else (some ((false, ()), w))) else (some ((false, ()), w))
/-- coffer/cofferlaw06.begun -/
noncomputable def law06_begun {β : Type} (K : Nat) (c0 : Array Value) (w : World) (k : ((Option Addr) × (Option Addr) × Bool × Unit) → World → Option β) : Option β :=
  bnd (newB c0 24 w) fun p_1 w_2 =>
  (ldS (p_1.add 2) w_2).bind fun v_3 =>
  bnd (book_Bytes K v_3 w_2) fun r_4 w_5 =>
  (ldS (p_1.add 3) w_5).bind fun v_6 =>
  bnd (book_Bytes K v_6 w_5) fun r_7 w_8 =>
  (ldS (p_1.add 4) w_8).bind fun v_9 =>
  bnd (book_Bytes K v_9 w_8) fun r_10 w_11 =>
  (ldI .i64 (p_1.add 0) w_11).bind fun v_12 =>
  (ldI .i64 (p_1.add 1) w_11).bind fun v_13 =>
  spring_New K v_12 v_13 r_4.1 r_7.1 r_10.1 w_11 fun r_14 w_15 =>
  (ldI .i64 (p_1.add 0) w_15).bind fun v_16 =>
  (ldI .i64 (p_1.add 1) w_15).bind fun v_17 =>
  (ldS (p_1.add 2) w_15).bind fun v_18 =>
  (ldS (p_1.add 3) w_15).bind fun v_19 =>
  (ldS (p_1.add 4) w_15).bind fun v_20 =>
  bnd (ref06_New K v_16 v_17 v_18 v_19 v_20 w_15) fun r_21 w_22 =>
  bnd (law06_begun_s0 K p_1 r_4.1 r_7.1 r_10.1 r_14.1 r_14.2.1 r_21.1 r_21.2.1 w_22) fun y_33 w_34 =>
  bnd (book_SpoilBytes K r_4.1 w_34) fun r_35 w_36 =>
  bnd (book_SpoilBytes K r_7.1 w_36) fun r_37 w_38 =>
  bnd (book_SpoilBytes K r_10.1 w_38) fun r_39 w_40 =>
  k (r_14.1, r_21.1, y_33.1, ()) w_40
theorem law06_begun_s0_ok (K : Nat) : StmtNOk prog [(1, .addr), (5, .sl), (6, .sl), (7, .sl), (8, .ptr), (9, .int .i64), (10, .ptr), (11, .int .i64)] [(12, .bool)] [(12, 13), (47, 76)] (fun x w => law06_begun_s0 K x.1 x.2.1 x.2.2.1 x.2.2.2.1 x.2.2.2.2.1 x.2.2.2.2.2.1 x.2.2.2.2.2.2.1 x.2.2.2.2.2.2.2.1 w) (cd (bodyOf f13) [1, 1, 1, 1, 1, 1, 0]) :=
    mk_stmtN (O := tabL []) (root := (bodyOf f13)) (π := [1, 1, 1, 1, 1, 1, 0]) (Li := [(1, .addr), (5, .sl), (6, .sl), (7, .sl), (8, .ptr), (9, .int .i64), (10, .ptr), (11, .int .i64)]) (Lo := [(12, .bool)]) (S := (fun x w => law06_begun_s0 K x.1 x.2.1 x.2.2.1 x.2.2.2.1 x.2.2.2.2.1 x.2.2.2.2.2.1 x.2.2.2.2.2.2.1 x.2.2.2.2.2.2.2.1 w)) (law06_begun_Eok K) (law06_begun_Rok K) rfl (Orc.nil _ _ _) (by kernel_rfl) (fun _ _ => by kernel_rfl)
noncomputable def law06_begun_s0_se (K : Nat) : SE := stmtN [(1, .addr), (5, .sl), (6, .sl), (7, .sl), (8, .ptr), (9, .int .i64), (10, .ptr), (11, .int .i64)] [(12, .bool)] [(12, 13), (47, 76)] (fun x w => law06_begun_s0 K x.1 x.2.1 x.2.2.1 x.2.2.2.1 x.2.2.2.2.1 x.2.2.2.2.2.1 x.2.2.2.2.2.2.1 x.2.2.2.2.2.2.2.1 w)
theorem law06_begun_s0_se_ok (K : Nat) (R : Rg) (h : subRB [(12, 13), (47, 76)] R = true) : (law06_begun_s0_se K).Ok prog R (cd (bodyOf f13) [1, 1, 1, 1, 1, 1, 0]) := stmtN_ok (Li := [(1, .addr), (5, .sl), (6, .sl), (7, .sl), (8, .ptr), (9, .int .i64), (10, .ptr), (11, .int .i64)]) (Lo := [(12, .bool)]) (S := (fun x w => law06_begun_s0 K x.1 x.2.1 x.2.2.1 x.2.2.2.1 x.2.2.2.2.1 x.2.2.2.2.2.1 x.2.2.2.2.2.2.1 x.2.2.2.2.2.2.2.1 w)) (law06_begun_s0_ok K) (subR_of h)
theorem law06_begun_facts : FunFacts prog 13 f13 (bodyOf f13) [(0, .agg)] [(0, 85)] := ⟨func13, by kernel_rfl, by kernel_rfl, by kernel_rfl, by kernel_rfl, by kernel_rfl⟩
theorem law06_begun_calls (K : Nat) {β : Type} (x : TT [(0, .agg)]) (w : World) (k : TR [.ptr, .ptr, .bool] → World → Option β) (r : β) (h : law06_begun K x.1 w k = some r) : Calls prog 13 (encA [(0, .agg)] x).toArray w (fun e w3 => ∃ y, e = .returned (resV (encR [.ptr, .ptr, .bool] y)) ∧ k y w3 = some r) :=
    mk_funC (O := tabL [([1, 1, 1, 1, 1, 1, 0], law06_begun_s0_se K)]) (Lp := [(0, .agg)]) (Rt := [.ptr, .ptr, .bool]) (S := (fun x w k => law06_begun K x.1 w k)) (law06_begun_Eok K) (law06_begun_Rok K) rfl law06_begun_facts (Orc.cons (by kernel_rfl) (law06_begun_s0_se_ok K [(0, 85)] (by kernel_rfl)) (Orc.nil _ _ _)) (fun _ _ _ => by kernel_rfl) x w k r h
noncomputable def law06_begun_ce (K : Nat) : CE := funC [(0, .agg)] [.ptr, .ptr, .bool] (fun {_} x w k => law06_begun K x.1 w k)
theorem law06_begun_ok (K : Nat) : (law06_begun_ce K).Ok prog 13 := funC_ok (Rt := [.ptr, .ptr, .bool]) (S := (fun {_} x w k => law06_begun K x.1 w k)) law06_begun_facts fun x w k r h => law06_begun_calls K x w k r h

noncomputable def law06_long_R (K : Nat) : List (Nat × RE) := []
theorem law06_long_Rok (K : Nat) : REnv.Ok prog (tab (law06_long_R K)) := (REnv.nil _)
noncomputable def law06_long_s1 (K : Nat) (parts0 : Sl) (n3 : Int) (i4 : Int) (w : World) : Option (Out (Bool × Unit) (Bool × Unit)) :=
  if (decide (i4 < ((parts0.len : Nat) : Int))) = true then (some (.norm ((decide (n3 ≤ 262144)), ()))) else (some (.norm (false, ())))
noncomputable def law06_long_l0_b (K : Nat) (w : World) (rec : Sl → Int → Int → Option (Out (Int × Unit) (Bool × Unit))) (parts0 : Sl) (n3 : Int) (i4 : Int) : Option (Out (Int × Unit) (Bool × Unit)) :=
  (law06_long_s1 K parts0 n3 i4 w).bind fun y_1 =>
  (match y_1 with
  | .norm z_2n => (if z_2n.1 = true then ((parts0.a).bind fun p_3 =>
  if (0 : Int) ≤ i4 ∧ i4 < ((parts0.len : Nat) : Int) then ((ldS (p_3.add ((Int.toNat i4) * 1)) w).bind fun v_4 =>
  rec parts0 (IntKind.i64.wrap (n3 + ((v_4.len : Nat) : Int))) (IntKind.i64.wrap (i4 + 1))) else none) else (some (.norm (n3, ()))))
  | .ret z_2r => (some (.ret (z_2r.1, ()))))
noncomputable def law06_long_l0 (K : Nat) (n : Nat) (parts0 : Sl) (n3 : Int) (i4 : Int) (w : World) : Option (Out (Int × Unit) (Bool × Unit)) := iter (α := Sl → Int → Int → Option (Out (Int × Unit) (Bool × Unit))) (fun _ _ _ => none) (law06_long_l0_b K w) n parts0 n3 i4
/-- coffer/cofferlaw06.long -/
noncomputable def law06_long (K : Nat) (parts0 : Sl) (w : World) : Option (Bool × Unit) :=
  (law06_long_l0 K K parts0 0 0 w).bind fun y_5 =>
  (match y_5 with
  | .norm z_6n => (some ((decide (z_6n.1 > 262144)), ()))
  | .ret z_6r => (some (z_6r.1, ())))
theorem law06_long_s1_ok (K : Nat) : StmtQOk prog [(0, .sl), (3, .int .i64), (4, .int .i64)] [(12, .bool)] [(2, .bool)] [(5, 13)] (fun x w => law06_long_s1 K x.1 x.2.1 x.2.2.1 w) (cd (bodyOf f28) [1, 1, 0, 1, 0, 0, 0, 0]) :=
    mk_stmtQ (O := tabL []) (root := (bodyOf f28)) (π := [1, 1, 0, 1, 0, 0, 0, 0]) (Li := [(0, .sl), (3, .int .i64), (4, .int .i64)]) (Lo := [(12, .bool)]) (Lr := [(2, .bool)]) (S := (fun x w => law06_long_s1 K x.1 x.2.1 x.2.2.1 w)) (law06_long_Rok K) (OrcQ.nil _ _ _) (by kernel_rfl) (fun _ _ => by kernel_rfl)
noncomputable def law06_long_s1_se (K : Nat) : SQ := stmtQ [(0, .sl), (3, .int .i64), (4, .int .i64)] [(12, .bool)] [(2, .bool)] [(5, 13)] (fun x w => law06_long_s1 K x.1 x.2.1 x.2.2.1 w)
theorem law06_long_s1_se_ok (K : Nat) (R : Rg) (h : subRB [(5, 13)] R = true) : (law06_long_s1_se K).Ok prog R (cd (bodyOf f28) [1, 1, 0, 1, 0, 0, 0, 0]) := stmtQ_ok (Li := [(0, .sl), (3, .int .i64), (4, .int .i64)]) (Lo := [(12, .bool)]) (Lr := [(2, .bool)]) (S := (fun x w => law06_long_s1 K x.1 x.2.1 x.2.2.1 w)) (law06_long_s1_ok K) (subR_of h)
theorem law06_long_l0_ok (K : Nat) (n : Nat) : StmtQOk prog [(0, .sl), (3, .int .i64), (4, .int .i64)] [(3, .int .i64)] [(2, .bool)] [(3, 22)] ((fun n x w => law06_long_l0 K n x.1 x.2.1 x.2.2.1 w) n) (.block 0 (.loop (cd (bodyOf f28) [1, 1, 0, 1, 0, 0]))) :=
    mk_loopQ (O := tabL [([1, 1, 0, 1, 0, 0, 0, 0], law06_long_s1_se K)]) (root := (bodyOf f28)) (π := [1, 1, 0, 1, 0, 0]) (id := 0) (Li := [(0, .sl), (3, .int .i64), (4, .int .i64)]) (Lo := [(3, .int .i64)]) (Lr := [(2, .bool)]) (S := (fun n x w => law06_long_l0 K n x.1 x.2.1 x.2.2.1 w)) (body := cd (bodyOf f28) [1, 1, 0, 1, 0, 0]) (law06_long_Rok K) (OrcQ.cons (by kernel_rfl) (law06_long_s1_se_ok K [(3, 22)] (by kernel_rfl)) (OrcQ.nil _ _ _)) (by kernel_rfl) (fun _ _ => by kernel_rfl) (fun _ _ _ => by kernel_rfl) n
noncomputable def law06_long_l0_se (K : Nat) : SQ := stmtQ [(0, .sl), (3, .int .i64), (4, .int .i64)] [(3, .int .i64)] [(2, .bool)] [(3, 22)] (fun x w => law06_long_l0 K K x.1 x.2.1 x.2.2.1 w)
theorem law06_long_l0_se_ok (K : Nat) (R : Rg) (h : subRB [(3, 22)] R = true) : (law06_long_l0_se K).Ok prog R (.block 0 (.loop (cd (bodyOf f28) [1, 1, 0, 1, 0, 0]))) := stmtQ_ok (Li := [(0, .sl), (3, .int .i64), (4, .int .i64)]) (Lo := [(3, .int .i64)]) (Lr := [(2, .bool)]) (S := (fun x w => law06_long_l0 K K x.1 x.2.1 x.2.2.1 w)) (law06_long_l0_ok K K) (subR_of h)
theorem law06_long_facts : FunFacts prog 28 f28 (bodyOf f28) [(0, .sl)] [(0, 24)] := ⟨func28, by kernel_rfl, by kernel_rfl, by kernel_rfl, by kernel_rfl, by kernel_rfl⟩
theorem law06_long_calls (K : Nat) (x : TT [(0, .sl)]) (w : World) (y : TR [.bool]) (h : law06_long K x.1 w = some y) : Calls prog 28 (encA [(0, .sl)] x).toArray w (fun e w3 => e = .returned (resV (encR [.bool] y)) ∧ w3 = w) :=
    mk_funQ (O := tabL [([1, 1, 0, 1], law06_long_l0_se K), ([1, 1, 0, 1, 0, 0, 0, 0], law06_long_s1_se K)]) (Lp := [(0, .sl)]) (Rt := [.bool]) (S := (fun x w => law06_long K x.1 w)) (law06_long_Rok K) law06_long_facts (OrcQ.cons (by kernel_rfl) (law06_long_l0_se_ok K [(0, 24)] (by kernel_rfl)) (OrcQ.cons (by kernel_rfl) (law06_long_s1_se_ok K [(0, 24)] (by kernel_rfl)) (OrcQ.nil _ _ _))) (fun _ _ => by kernel_rfl) x w y h
noncomputable def law06_long_re (K : Nat) : RE := funR [(0, .sl)] [.bool] (fun x w => law06_long K x.1 w)
theorem law06_long_ok (K : Nat) : (law06_long_re K).Ok prog 28 := funR_ok (Rt := [.bool]) (S := (fun x w => law06_long K x.1 w)) law06_long_facts fun x w y h => law06_long_calls K x w y h

end Go.Sh
