/- Texts of this claim, put together: Sh2 -/
import Derived.Test.YtgmdbhckccmhjaaAllShdcdkgm
/- What functions of the program do, as Lean functions; that the machine does just that. Printed by shal.py, a program of this claim's writer. -/
set_option maxRecDepth 100000
set_option linter.unusedVariables false
namespace Go.Sh
open Go.Fw Go.Proofs.Try

noncomputable def ref01_worth_R : List (Nat × RE) := []
theorem ref01_worth_Rok : REnv.Ok prog (tab (ref01_worth_R)) := (REnv.nil _)
noncomputable def ref01_worth_s0 (c0 : Int) : Option (Out (Bool × Unit) (Int × Unit)) :=
  if (decide (c0 ≥ 65)) = true then (some (.norm ((decide (c0 ≤ 90)), ()))) else (some (.norm (false, ())))
noncomputable def ref01_worth_s1 (c0 : Int) : Option (Out (Bool × Unit) (Int × Unit)) :=
  if (decide (c0 ≥ 97)) = true then (some (.norm ((decide (c0 ≤ 122)), ()))) else (some (.norm (false, ())))
noncomputable def ref01_worth_s2 (c0 : Int) : Option (Out (Bool × Unit) (Int × Unit)) :=
  if (decide (c0 ≥ 48)) = true then (some (.norm ((decide (c0 ≤ 57)), ()))) else (some (.norm (false, ())))
/-- coffer/cofferref01.worth -/
noncomputable def ref01_worth (c0 : Int) : Option (Int × Unit) :=
  (ref01_worth_s0 c0).bind fun y_1 =>
  (match y_1 with
  | .norm z_2n => (if z_2n.1 = true then (some ((IntKind.i64.wrap ((IntKind.i64.wrap c0) - 65)), ())) else ((ref01_worth_s1 c0).bind fun y_3 =>
  (match y_3 with
  | .norm z_4n => (if z_4n.1 = true then (some ((IntKind.i64.wrap ((IntKind.i64.wrap ((IntKind.i64.wrap c0) - 97)) + 26)), ())) else ((ref01_worth_s2 c0).bind fun y_5 =>
  (match y_5 with
  | .norm z_6n => (if z_6n.1 = true then (some ((IntKind.i64.wrap ((IntKind.i64.wrap ((IntKind.i64.wrap c0) - 48)) + 52)), ())) else (if (c0 == 43) = true then (some (62, ())) else (if (c0 == 47) = true then (some (63, ())) else (some ((-1), ())))))
  | .ret z_6r => (some (z_6r.1, ())))))
  | .ret z_4r => (some (z_4r.1, ())))))
  | .ret z_2r => (some (z_2r.1, ())))
theorem ref01_worth_s0_ok : StmtQOk prog [(0, .int .u8)] [(3, .bool)] [(2, .int .i64)] [(3, 10)] (fun x w => ref01_worth_s0 x.1) (cd (bodyOf f30) [1, 0, 0, 0]) :=
    mk_stmtQ (O := tabL []) (root := (bodyOf f30)) (π := [1, 0, 0, 0]) (Li := [(0, .int .u8)]) (Lo := [(3, .bool)]) (Lr := [(2, .int .i64)]) (S := (fun x w => ref01_worth_s0 x.1)) (ref01_worth_Rok) (OrcQ.nil _ _ _) (by kernel_rfl) (fun _ _ => by kernel_rfl)
noncomputable def ref01_worth_s0_se : SQ := stmtQ [(0, .int .u8)] [(3, .bool)] [(2, .int .i64)] [(3, 10)] (fun x w => ref01_worth_s0 x.1)
theorem ref01_worth_s0_se_ok (R : Rg) (h : subRB [(3, 10)] R = true) : (ref01_worth_s0_se).Ok prog R (cd (bodyOf f30) [1, 0, 0, 0]) := stmtQ_ok (Li := [(0, .int .u8)]) (Lo := [(3, .bool)]) (Lr := [(2, .int .i64)]) (S := (fun x w => ref01_worth_s0 x.1)) (ref01_worth_s0_ok) (subR_of h)
theorem ref01_worth_s1_ok : StmtQOk prog [(0, .int .u8)] [(13, .bool)] [(2, .int .i64)] [(13, 20)] (fun x w => ref01_worth_s1 x.1) (cd (bodyOf f30) [1, 0, 0, 1, 1, 0]) :=
    mk_stmtQ (O := tabL []) (root := (bodyOf f30)) (π := [1, 0, 0, 1, 1, 0]) (Li := [(0, .int .u8)]) (Lo := [(13, .bool)]) (Lr := [(2, .int .i64)]) (S := (fun x w => ref01_worth_s1 x.1)) (ref01_worth_Rok) (OrcQ.nil _ _ _) (by kernel_rfl) (fun _ _ => by kernel_rfl)
noncomputable def ref01_worth_s1_se : SQ := stmtQ [(0, .int .u8)] [(13, .bool)] [(2, .int .i64)] [(13, 20)] (fun x w => ref01_worth_s1 x.1)
theorem ref01_worth_s1_se_ok (R : Rg) (h : subRB [(13, 20)] R = true) : (ref01_worth_s1_se).Ok prog R (cd (bodyOf f30) [1, 0, 0, 1, 1, 0]) := stmtQ_ok (Li := [(0, .int .u8)]) (Lo := [(13, .bool)]) (Lr := [(2, .int .i64)]) (S := (fun x w => ref01_worth_s1 x.1)) (ref01_worth_s1_ok) (subR_of h)
theorem ref01_worth_s2_ok : StmtQOk prog [(0, .int .u8)] [(24, .bool)] [(2, .int .i64)] [(24, 31)] (fun x w => ref01_worth_s2 x.1) (cd (bodyOf f30) [1, 0, 0, 1, 1, 1, 1, 0]) :=
    mk_stmtQ (O := tabL []) (root := (bodyOf f30)) (π := [1, 0, 0, 1, 1, 1, 1, 0]) (Li := [(0, .int .u8)]) (Lo := [(24, .bool)]) (Lr := [(2, .int .i64)]) (S := (fun x w => ref01_worth_s2 x.1)) (ref01_worth_Rok) (OrcQ.nil _ _ _) (by kernel_rfl) (fun _ _ => by kernel_rfl)
noncomputable def ref01_worth_s2_se : SQ := stmtQ [(0, .int .u8)] [(24, .bool)] [(2, .int .i64)] [(24, 31)] (fun x w => ref01_worth_s2 x.1)
theorem ref01_worth_s2_se_ok (R : Rg) (h : subRB [(24, 31)] R = true) : (ref01_worth_s2_se).Ok prog R (cd (bodyOf f30) [1, 0, 0, 1, 1, 1, 1, 0]) := stmtQ_ok (Li := [(0, .int .u8)]) (Lo := [(24, .bool)]) (Lr := [(2, .int .i64)]) (S := (fun x w => ref01_worth_s2 x.1)) (ref01_worth_s2_ok) (subR_of h)
theorem ref01_worth_facts : FunFacts prog 30 f30 (bodyOf f30) [(0, .int .u8)] [(0, 41)] := ⟨func30, by kernel_rfl, by kernel_rfl, by kernel_rfl, by kernel_rfl, by kernel_rfl⟩
theorem ref01_worth_calls (x : TT [(0, .int .u8)]) (w : World) (y : TR [.int .i64]) (h : ref01_worth x.1 = some y) : Calls prog 30 (encA [(0, .int .u8)] x).toArray w (fun e w3 => e = .returned (resV (encR [.int .i64] y)) ∧ w3 = w) :=
    mk_funQ (O := tabL [([1, 0, 0, 0], ref01_worth_s0_se), ([1, 0, 0, 1, 1, 0], ref01_worth_s1_se), ([1, 0, 0, 1, 1, 1, 1, 0], ref01_worth_s2_se)]) (Lp := [(0, .int .u8)]) (Rt := [.int .i64]) (S := (fun x w => ref01_worth x.1)) (ref01_worth_Rok) ref01_worth_facts (OrcQ.cons (by kernel_rfl) (ref01_worth_s0_se_ok [(0, 41)] (by kernel_rfl)) (OrcQ.cons (by kernel_rfl) (ref01_worth_s1_se_ok [(0, 41)] (by kernel_rfl)) (OrcQ.cons (by kernel_rfl) (ref01_worth_s2_se_ok [(0, 41)] (by kernel_rfl)) (OrcQ.nil _ _ _)))) (fun _ _ => by kernel_rfl) x w y h
noncomputable def ref01_worth_re : RE := funR [(0, .int .u8)] [.int .i64] (fun x w => ref01_worth x.1)
theorem ref01_worth_ok : (ref01_worth_re).Ok prog 30 := funR_ok (Rt := [.int .i64]) (S := (fun x w => ref01_worth x.1)) ref01_worth_facts fun x w y h => ref01_worth_calls x w y h

noncomputable def ref01_fits_R : List (Nat × RE) := [(30, ref01_worth_re)]
theorem ref01_fits_Rok : REnv.Ok prog (tab (ref01_fits_R)) := (REnv.cons (ref01_worth_ok) (REnv.nil _))
noncomputable def ref01_fits_s0 (s0 : ByteArray) (i1 : Int) (k5 : Int) : Option (Out (Bool × Unit) (Bool × Unit)) :=
  if (decide (i1 ≥ 4)) = true then (if (0 : Int) ≤ (IntKind.i64.wrap ((IntKind.i64.wrap (i1 - k5)) - 1)) then ((s0[(Int.toNat (IntKind.i64.wrap ((IntKind.i64.wrap (i1 - k5)) - 1)))]?).bind fun b_1 =>
  some (.norm ((((b_1.toNat : Nat) : Int) == 61), ()))) else none) else (some (.norm (false, ())))
noncomputable def ref01_fits_s1 (s0 : ByteArray) (i1 : Int) (a4 : Bool) (k5 : Int) : Option (Out (Bool × Unit) (Bool × Unit)) :=
  if (0 : Int) ≤ i1 then ((s0[(Int.toNat i1)]?).bind fun b_5 =>
  (ref01_worth ((b_5.toNat : Nat) : Int)).bind fun r_6 =>
  if (decide (r_6.1 ≥ 0)) = true then (if (k5 != 3) = true then (some (.norm (true, ()))) else (if (0 : Int) ≤ (IntKind.i64.wrap (i1 - 1)) then ((s0[(Int.toNat (IntKind.i64.wrap (i1 - 1)))]?).bind fun b_7 =>
  some (.norm ((((b_7.toNat : Nat) : Int) != 61), ()))) else none)) else (some (.norm (false, ())))) else none
/-- coffer/cofferref01.fits -/
noncomputable def ref01_fits (s0 : ByteArray) (i1 : Int) : Option (Bool × Unit) :=
  (ref01_fits_s0 s0 i1 (Int.tmod i1 4)).bind fun y_2 =>
  (match y_2 with
  | .norm z_3n => (if z_3n.1 = true then (some (false, ())) else (if (0 : Int) ≤ i1 then ((s0[(Int.toNat i1)]?).bind fun b_4 =>
  if (((b_4.toNat : Nat) : Int) != 61) = true then ((ref01_fits_s1 s0 i1 false (Int.tmod i1 4)).bind fun y_8 =>
  (match y_8 with
  | .norm z_9n => (some (z_9n.1, ()))
  | .ret z_9r => (some (z_9r.1, ())))) else (if ((Int.tmod i1 4) == 2) = true then (if (0 : Int) ≤ (IntKind.i64.wrap (i1 - 1)) then ((s0[(Int.toNat (IntKind.i64.wrap (i1 - 1)))]?).bind fun b_10 =>
  (ref01_worth ((b_10.toNat : Nat) : Int)).bind fun r_11 =>
  some (((Int.tmod r_11.1 16) == 0), ())) else none) else (if ((Int.tmod i1 4) == 3) = true then (if (0 : Int) ≤ (IntKind.i64.wrap (i1 - 1)) then ((s0[(Int.toNat (IntKind.i64.wrap (i1 - 1)))]?).bind fun b_12 =>
  if (((b_12.toNat : Nat) : Int) == 61) = true then (some (true, ())) else (if (0 : Int) ≤ (IntKind.i64.wrap (i1 - 1)) then ((s0[(Int.toNat (IntKind.i64.wrap (i1 - 1)))]?).bind fun b_13 =>
  (ref01_worth ((b_13.toNat : Nat) : Int)).bind fun r_14 =>
  some (((Int.tmod r_14.1 4) == 0), ())) else none)) else none) else (some (false, ()))))) else none))
  | .ret z_3r => (some (z_3r.1, ())))
theorem ref01_fits_s0_ok : StmtQOk prog [(0, .str), (1, .int .i64), (5, .int .i64)] [(18, .bool)] [(4, .bool)] [(8, 19)] (fun x w => ref01_fits_s0 x.1 x.2.1 x.2.2.1) (cd (bodyOf f29) [1, 1, 0, 0]) :=
    mk_stmtQ (O := tabL []) (root := (bodyOf f29)) (π := [1, 1, 0, 0]) (Li := [(0, .str), (1, .int .i64), (5, .int .i64)]) (Lo := [(18, .bool)]) (Lr := [(4, .bool)]) (S := (fun x w => ref01_fits_s0 x.1 x.2.1 x.2.2.1)) (ref01_fits_Rok) (OrcQ.nil _ _ _) (by kernel_rfl) (fun _ _ => by kernel_rfl)
noncomputable def ref01_fits_s0_se : SQ := stmtQ [(0, .str), (1, .int .i64), (5, .int .i64)] [(18, .bool)] [(4, .bool)] [(8, 19)] (fun x w => ref01_fits_s0 x.1 x.2.1 x.2.2.1)
theorem ref01_fits_s0_se_ok (R : Rg) (h : subRB [(8, 19)] R = true) : (ref01_fits_s0_se).Ok prog R (cd (bodyOf f29) [1, 1, 0, 0]) := stmtQ_ok (Li := [(0, .str), (1, .int .i64), (5, .int .i64)]) (Lo := [(18, .bool)]) (Lr := [(4, .bool)]) (S := (fun x w => ref01_fits_s0 x.1 x.2.1 x.2.2.1)) (ref01_fits_s0_ok) (subR_of h)
theorem ref01_fits_s1_ok : StmtQOk prog [(0, .str), (1, .int .i64), (4, .bool), (5, .int .i64)] [(4, .bool)] [(4, .bool)] [(4, 5), (23, 39)] (fun x w => ref01_fits_s1 x.1 x.2.1 x.2.2.1 x.2.2.2.1) (cd (bodyOf f29) [1, 1, 1, 0, 1, 0, 0]) :=
    mk_stmtQ (O := tabL []) (root := (bodyOf f29)) (π := [1, 1, 1, 0, 1, 0, 0]) (Li := [(0, .str), (1, .int .i64), (4, .bool), (5, .int .i64)]) (Lo := [(4, .bool)]) (Lr := [(4, .bool)]) (S := (fun x w => ref01_fits_s1 x.1 x.2.1 x.2.2.1 x.2.2.2.1)) (ref01_fits_Rok) (OrcQ.nil _ _ _) (by kernel_rfl) (fun _ _ => by kernel_rfl)
noncomputable def ref01_fits_s1_se : SQ := stmtQ [(0, .str), (1, .int .i64), (4, .bool), (5, .int .i64)] [(4, .bool)] [(4, .bool)] [(4, 5), (23, 39)] (fun x w => ref01_fits_s1 x.1 x.2.1 x.2.2.1 x.2.2.2.1)
theorem ref01_fits_s1_se_ok (R : Rg) (h : subRB [(4, 5), (23, 39)] R = true) : (ref01_fits_s1_se).Ok prog R (cd (bodyOf f29) [1, 1, 1, 0, 1, 0, 0]) := stmtQ_ok (Li := [(0, .str), (1, .int .i64), (4, .bool), (5, .int .i64)]) (Lo := [(4, .bool)]) (Lr := [(4, .bool)]) (S := (fun x w => ref01_fits_s1 x.1 x.2.1 x.2.2.1 x.2.2.2.1)) (ref01_fits_s1_ok) (subR_of h)
theorem ref01_fits_facts : FunFacts prog 29 f29 (bodyOf f29) [(0, .str), (1, .int .i64)] [(0, 65)] := ⟨func29, by kernel_rfl, by kernel_rfl, by kernel_rfl, by kernel_rfl, by kernel_rfl⟩
theorem ref01_fits_calls (x : TT [(0, .str), (1, .int .i64)]) (w : World) (y : TR [.bool]) (h : ref01_fits x.1 x.2.1 = some y) : Calls prog 29 (encA [(0, .str), (1, .int .i64)] x).toArray w (fun e w3 => e = .returned (resV (encR [.bool] y)) ∧ w3 = w) :=
    mk_funQ (O := tabL [([1, 1, 0, 0], ref01_fits_s0_se), ([1, 1, 1, 0, 1, 0, 0], ref01_fits_s1_se)]) (Lp := [(0, .str), (1, .int .i64)]) (Rt := [.bool]) (S := (fun x w => ref01_fits x.1 x.2.1)) (ref01_fits_Rok) ref01_fits_facts (OrcQ.cons (by kernel_rfl) (ref01_fits_s0_se_ok [(0, 65)] (by kernel_rfl)) (OrcQ.cons (by kernel_rfl) (ref01_fits_s1_se_ok [(0, 65)] (by kernel_rfl)) (OrcQ.nil _ _ _))) (fun _ _ => by kernel_rfl) x w y h
noncomputable def ref01_fits_re : RE := funR [(0, .str), (1, .int .i64)] [.bool] (fun x w => ref01_fits x.1 x.2.1)
theorem ref01_fits_ok : (ref01_fits_re).Ok prog 29 := funR_ok (Rt := [.bool]) (S := (fun x w => ref01_fits x.1 x.2.1)) ref01_fits_facts fun x w y h => ref01_fits_calls x w y h

noncomputable def ref01_FromBase64_E (K : Nat) : List (Nat × CE) := []
theorem ref01_FromBase64_Eok (K : Nat) : Env.Ok prog (tab (ref01_FromBase64_E K)) := (Env.nil _)
noncomputable def ref01_FromBase64_R (K : Nat) : List (Nat × RE) := [(29, ref01_fits_re), (30, ref01_worth_re)]
theorem ref01_FromBase64_Rok (K : Nat) : REnv.Ok prog (tab (ref01_FromBase64_R K)) := (REnv.cons (ref01_fits_ok) (REnv.cons (ref01_worth_ok) (REnv.nil _)))
noncomputable def ref01_FromBase64_l0_b (K : Nat) (rec : ByteArray → Int → World → Option ((Out (Unit) (Sl × Int × Int × Unit)) × World)) (s0 : ByteArray) (i5 : Int) (w : World) : Option ((Out (Unit) (Sl × Int × Int × Unit)) × World) :=
  if (decide (i5 < ((s0.size : Nat) : Int))) = true then ((ref01_fits s0 i5).bind fun r_1 =>
  if (!r_1.1) = true then (some (.ret (⟨none, 0, 0⟩, 14, i5, ()), w)) else (rec s0 (IntKind.i64.wrap (i5 + 1)) w)) else (some (.norm (), w))
noncomputable def ref01_FromBase64_l0 (K : Nat) (n : Nat) : ByteArray → Int → World → Option ((Out (Unit) (Sl × Int × Int × Unit)) × World) := iter (fun _ _ _ => none) (ref01_FromBase64_l0_b K) n
noncomputable def ref01_FromBase64_s2 (K : Nat) (s0 : ByteArray) (out6 : Sl) (i7 : Int) (v8 : Int) (a57 : Bool) (w : World) : Option ((Sl × Int × Unit) × World) :=
  if a57 = true then (if (0 : Int) ≤ (IntKind.i64.wrap (i7 + 2)) then ((s0[(Int.toNat (IntKind.i64.wrap (i7 + 2)))]?).bind fun b_14 =>
  (ref01_worth ((b_14.toNat : Nat) : Int)).bind fun r_15 =>
  bnd (bldS prog 25 1 #[(0, (.int .u8 (IntKind.u8.wrap (Int.tmod (IntKind.i64.wrap (Int.tdiv (IntKind.i64.wrap (v8 + (IntKind.i64.wrap (r_15.1 * 64)))) 256)) 256))))] w) fun s_16 w_17 =>
  bnd (apd prog 25 25 (.slice out6.a out6.len out6.cap) (.slice s_16.a s_16.len s_16.cap) w_17) fun s_18 w_19 =>
  some ((s_18, (IntKind.i64.wrap (v8 + (IntKind.i64.wrap (r_15.1 * 64)))), ()), w_19)) else none) else (some ((out6, v8, ()), w))
noncomputable def ref01_FromBase64_l1_b (K : Nat) (rec : ByteArray → Sl → Int → World → Option ((Sl × Unit) × World)) (s0 : ByteArray) (out6 : Sl) (i7 : Int) (w : World) : Option ((Sl × Unit) × World) :=
  if (decide (i7 < ((s0.size : Nat) : Int))) = true then (if (0 : Int) ≤ i7 then ((s0[(Int.toNat i7)]?).bind fun b_5 =>
  if (0 : Int) ≤ (IntKind.i64.wrap (i7 + 1)) then ((s0[(Int.toNat (IntKind.i64.wrap (i7 + 1)))]?).bind fun b_6 =>
  (ref01_worth ((b_5.toNat : Nat) : Int)).bind fun r_7 =>
  (ref01_worth ((b_6.toNat : Nat) : Int)).bind fun r_8 =>
  bnd (bldS prog 25 1 #[(0, (.int .u8 (IntKind.u8.wrap (IntKind.i64.wrap (Int.tdiv (IntKind.i64.wrap ((IntKind.i64.wrap (r_7.1 * 262144)) + (IntKind.i64.wrap (r_8.1 * 4096)))) 65536)))))] w.drew) fun s_9 w_10 =>
  bnd (apd prog 25 25 (.slice out6.a out6.len out6.cap) (.slice s_9.a s_9.len s_9.cap) w_10) fun s_11 w_12 =>
  if (0 : Int) ≤ (IntKind.i64.wrap (i7 + 2)) then ((s0[(Int.toNat (IntKind.i64.wrap (i7 + 2)))]?).bind fun b_13 =>
  bnd (ref01_FromBase64_s2 K s0 s_11 i7 (IntKind.i64.wrap ((IntKind.i64.wrap (r_7.1 * 262144)) + (IntKind.i64.wrap (r_8.1 * 4096)))) (((b_13.toNat : Nat) : Int) != 61) w_12) fun y_20 w_21 =>
  if (0 : Int) ≤ (IntKind.i64.wrap (i7 + 3)) then ((s0[(Int.toNat (IntKind.i64.wrap (i7 + 3)))]?).bind fun b_22 =>
  if (((b_22.toNat : Nat) : Int) != 61) = true then (if (0 : Int) ≤ (IntKind.i64.wrap (i7 + 3)) then ((s0[(Int.toNat (IntKind.i64.wrap (i7 + 3)))]?).bind fun b_23 =>
  (ref01_worth ((b_23.toNat : Nat) : Int)).bind fun r_24 =>
  bnd (bldS prog 25 1 #[(0, (.int .u8 (IntKind.u8.wrap (Int.tmod (IntKind.i64.wrap (y_20.2.1 + r_24.1)) 256))))] w_21) fun s_25 w_26 =>
  bnd (apd prog 25 25 (.slice y_20.1.a y_20.1.len y_20.1.cap) (.slice s_25.a s_25.len s_25.cap) w_26) fun s_27 w_28 =>
  rec s0 s_27 (IntKind.i64.wrap (i7 + 4)) w_28) else none) else (rec s0 y_20.1 (IntKind.i64.wrap (i7 + 4)) w_21)) else none) else none) else none) else none) else (some ((out6, ()), w))
noncomputable def ref01_FromBase64_l1 (K : Nat) (n : Nat) : ByteArray → Sl → Int → World → Option ((Sl × Unit) × World) := iter (fun _ _ _ _ => none) (ref01_FromBase64_l1_b K) n
/-- coffer/cofferref01.FromBase64 -/
noncomputable def ref01_FromBase64 (K : Nat) (s0 : ByteArray) (w : World) : Option ((Sl × Int × Int × Unit) × World) :=
  if (decide (((s0.size : Nat) : Int) > 16777216)) = true then (some ((⟨none, 0, 0⟩, 4, 0, ()), w)) else (bnd (ref01_FromBase64_l0 K K s0 0 w) fun y_2 w_3 =>
  (match y_2 with
  | .norm z_4n => (if ((Int.tmod ((s0.size : Nat) : Int) 4) != 0) = true then (some ((⟨none, 0, 0⟩, 14, ((s0.size : Nat) : Int), ()), w_3)) else (bnd (ref01_FromBase64_l1 K K s0 ⟨none, 0, 0⟩ 0 w_3) fun y_29 w_30 =>
  some ((y_29.1, 0, 0, ()), w_30)))
  | .ret z_4r => (some ((z_4r.1, z_4r.2.1, z_4r.2.2.1, ()), w_3))))
theorem ref01_FromBase64_l0_ok (K : Nat) (n : Nat) : StmtOk prog [(0, .str), (5, .int .i64)] [] [(2, .sl), (3, .int .i64), (4, .int .i64)] [(2, 6), (12, 23)] ((fun n x w => ref01_FromBase64_l0 K n x.1 x.2.1 w) n) (.block 0 (.loop (cd (bodyOf f20) [1, 1, 0, 1, 0, 0]))) :=
    mk_loop (O := tabL []) (root := (bodyOf f20)) (π := [1, 1, 0, 1, 0, 0]) (id := 0) (Li := [(0, .str), (5, .int .i64)]) (Lo := []) (Lr := [(2, .sl), (3, .int .i64), (4, .int .i64)]) (S := (fun n x w => ref01_FromBase64_l0 K n x.1 x.2.1 w)) (body := cd (bodyOf f20) [1, 1, 0, 1, 0, 0]) (ref01_FromBase64_Eok K) (ref01_FromBase64_Rok K) rfl (Orc.nil _ _ _) (by kernel_rfl) (fun _ _ => by kernel_rfl) (fun _ _ _ => by kernel_rfl) n
noncomputable def ref01_FromBase64_l0_se (K : Nat) : SE := stmt [(0, .str), (5, .int .i64)] [] [(2, .sl), (3, .int .i64), (4, .int .i64)] [(2, 6), (12, 23)] (fun x w => ref01_FromBase64_l0 K K x.1 x.2.1 w)
theorem ref01_FromBase64_l0_se_ok (K : Nat) (R : Rg) (h : subRB [(2, 6), (12, 23)] R = true) : (ref01_FromBase64_l0_se K).Ok prog R (.block 0 (.loop (cd (bodyOf f20) [1, 1, 0, 1, 0, 0]))) := stmt_ok (Li := [(0, .str), (5, .int .i64)]) (Lo := []) (Lr := [(2, .sl), (3, .int .i64), (4, .int .i64)]) (S := (fun x w => ref01_FromBase64_l0 K K x.1 x.2.1 w)) (ref01_FromBase64_l0_ok K K) (subR_of h)
theorem ref01_FromBase64_s2_ok (K : Nat) : StmtNOk prog [(0, .str), (6, .sl), (7, .int .i64), (8, .int .i64), (57, .bool)] [(6, .sl), (8, .int .i64)] [(6, 7), (8, 9), (58, 73)] (fun x w => ref01_FromBase64_s2 K x.1 x.2.1 x.2.2.1 x.2.2.2.1 x.2.2.2.2.1 w) (cd (bodyOf f20) [1, 1, 1, 1, 1, 0, 1, 0, 0, 1, 0, 0, 1, 1, 0, 1]) :=
    mk_stmtN (O := tabL []) (root := (bodyOf f20)) (π := [1, 1, 1, 1, 1, 0, 1, 0, 0, 1, 0, 0, 1, 1, 0, 1]) (Li := [(0, .str), (6, .sl), (7, .int .i64), (8, .int .i64), (57, .bool)]) (Lo := [(6, .sl), (8, .int .i64)]) (S := (fun x w => ref01_FromBase64_s2 K x.1 x.2.1 x.2.2.1 x.2.2.2.1 x.2.2.2.2.1 w)) (ref01_FromBase64_Eok K) (ref01_FromBase64_Rok K) rfl (Orc.nil _ _ _) (by kernel_rfl) (fun _ _ => by kernel_rfl)
noncomputable def ref01_FromBase64_s2_se (K : Nat) : SE := stmtN [(0, .str), (6, .sl), (7, .int .i64), (8, .int .i64), (57, .bool)] [(6, .sl), (8, .int .i64)] [(6, 7), (8, 9), (58, 73)] (fun x w => ref01_FromBase64_s2 K x.1 x.2.1 x.2.2.1 x.2.2.2.1 x.2.2.2.2.1 w)
theorem ref01_FromBase64_s2_se_ok (K : Nat) (R : Rg) (h : subRB [(6, 7), (8, 9), (58, 73)] R = true) : (ref01_FromBase64_s2_se K).Ok prog R (cd (bodyOf f20) [1, 1, 1, 1, 1, 0, 1, 0, 0, 1, 0, 0, 1, 1, 0, 1]) := stmtN_ok (Li := [(0, .str), (6, .sl), (7, .int .i64), (8, .int .i64), (57, .bool)]) (Lo := [(6, .sl), (8, .int .i64)]) (S := (fun x w => ref01_FromBase64_s2 K x.1 x.2.1 x.2.2.1 x.2.2.2.1 x.2.2.2.2.1 w)) (ref01_FromBase64_s2_ok K) (subR_of h)
theorem ref01_FromBase64_l1_ok (K : Nat) (n : Nat) : StmtNOk prog [(0, .str), (6, .sl), (7, .int .i64)] [(6, .sl)] [(6, 9), (29, 91)] ((fun n x w => ref01_FromBase64_l1 K n x.1 x.2.1 x.2.2.1 w) n) (.block 2 (.loop (cd (bodyOf f20) [1, 1, 1, 1, 1, 0, 1, 0, 0]))) :=
    mk_loopN (O := tabL [([1, 1, 1, 1, 1, 0, 1, 0, 0, 1, 0, 0, 1, 1, 0, 1], ref01_FromBase64_s2_se K)]) (root := (bodyOf f20)) (π := [1, 1, 1, 1, 1, 0, 1, 0, 0]) (id := 2) (Li := [(0, .str), (6, .sl), (7, .int .i64)]) (Lo := [(6, .sl)]) (S := (fun n x w => ref01_FromBase64_l1 K n x.1 x.2.1 x.2.2.1 w)) (body := cd (bodyOf f20) [1, 1, 1, 1, 1, 0, 1, 0, 0]) (ref01_FromBase64_Eok K) (ref01_FromBase64_Rok K) rfl (Orc.cons (by kernel_rfl) (ref01_FromBase64_s2_se_ok K [(6, 9), (29, 91)] (by kernel_rfl)) (Orc.nil _ _ _)) (by kernel_rfl) (fun _ _ => by kernel_rfl) (fun _ _ _ => by kernel_rfl) n
noncomputable def ref01_FromBase64_l1_se (K : Nat) : SE := stmtN [(0, .str), (6, .sl), (7, .int .i64)] [(6, .sl)] [(6, 9), (29, 91)] (fun x w => ref01_FromBase64_l1 K K x.1 x.2.1 x.2.2.1 w)
theorem ref01_FromBase64_l1_se_ok (K : Nat) (R : Rg) (h : subRB [(6, 9), (29, 91)] R = true) : (ref01_FromBase64_l1_se K).Ok prog R (.block 2 (.loop (cd (bodyOf f20) [1, 1, 1, 1, 1, 0, 1, 0, 0]))) := stmtN_ok (Li := [(0, .str), (6, .sl), (7, .int .i64)]) (Lo := [(6, .sl)]) (S := (fun x w => ref01_FromBase64_l1 K K x.1 x.2.1 x.2.2.1 w)) (ref01_FromBase64_l1_ok K K) (subR_of h)
theorem ref01_FromBase64_facts : FunFacts prog 20 f20 (bodyOf f20) [(0, .str)] [(0, 92)] := ⟨func20, by kernel_rfl, by kernel_rfl, by kernel_rfl, by kernel_rfl, by kernel_rfl⟩
theorem ref01_FromBase64_calls (K : Nat) (x : TT [(0, .str)]) (w : World) (y : TR [.sl, .int .i64, .int .i64]) (w2 : World) (h : ref01_FromBase64 K x.1 w = some (y, w2)) : Calls prog 20 (encA [(0, .str)] x).toArray w (fun e w3 => e = .returned (resV (encR [.sl, .int .i64, .int .i64] y)) ∧ w3 = w2) :=
    mk_fun (O := tabL [([1, 1, 0, 1], ref01_FromBase64_l0_se K), ([1, 1, 1, 1, 1, 0, 1], ref01_FromBase64_l1_se K), ([1, 1, 1, 1, 1, 0, 1, 0, 0, 1, 0, 0, 1, 1, 0, 1], ref01_FromBase64_s2_se K)]) (Lp := [(0, .str)]) (Rt := [.sl, .int .i64, .int .i64]) (S := (fun x w => ref01_FromBase64 K x.1 w)) (ref01_FromBase64_Eok K) (ref01_FromBase64_Rok K) rfl ref01_FromBase64_facts (Orc.cons (by kernel_rfl) (ref01_FromBase64_l0_se_ok K [(0, 92)] (by kernel_rfl)) (Orc.cons (by kernel_rfl) (ref01_FromBase64_l1_se_ok K [(0, 92)] (by kernel_rfl)) (Orc.cons (by kernel_rfl) (ref01_FromBase64_s2_se_ok K [(0, 92)] (by kernel_rfl)) (Orc.nil _ _ _)))) (fun _ _ => by kernel_rfl) x w y w2 h
noncomputable def ref01_FromBase64_ce (K : Nat) : CE := funE [(0, .str)] [.sl, .int .i64, .int .i64] (fun x w => ref01_FromBase64 K x.1 w)
theorem ref01_FromBase64_ok (K : Nat) : (ref01_FromBase64_ce K).Ok prog 20 := funE_ok (Rt := [.sl, .int .i64, .int .i64]) (S := (fun x w => ref01_FromBase64 K x.1 w)) ref01_FromBase64_facts fun x w y w2 h => ref01_FromBase64_calls K x w y w2 h

noncomputable def book_SpoilBytes_E (K : Nat) : List (Nat × CE) := []
theorem book_SpoilBytes_Eok (K : Nat) : Env.Ok prog (tab (book_SpoilBytes_E K)) := (Env.nil _)
noncomputable def book_SpoilBytes_R (K : Nat) : List (Nat × RE) := []
theorem book_SpoilBytes_Rok (K : Nat) : REnv.Ok prog (tab (book_SpoilBytes_R K)) := (REnv.nil _)
noncomputable def book_SpoilBytes_l0_b (K : Nat) (rec : Sl → Int → World → Option ((Unit) × World)) (l0 : Sl) (i2 : Int) (w : World) : Option ((Unit) × World) :=
  if (decide (i2 < ((l0.len : Nat) : Int))) = true then ((l0.a).bind fun p_1 =>
  if (0 : Int) ≤ i2 ∧ i2 < ((l0.len : Nat) : Int) then ((ldI .u8 (p_1.add ((Int.toNat i2) * 1)) w).bind fun v_2 =>
  (l0.a).bind fun p_3 =>
  if (0 : Int) ≤ i2 ∧ i2 < ((l0.len : Nat) : Int) then ((stC (p_3.add ((Int.toNat i2) * 1)) (.int .u8 (bits .xor .u8 v_2 165)) w).bind fun w_4 =>
  rec l0 (IntKind.i64.wrap (i2 + 1)) w_4) else none) else none) else (some ((), w))
noncomputable def book_SpoilBytes_l0 (K : Nat) (n : Nat) : Sl → Int → World → Option ((Unit) × World) := iter (fun _ _ _ => none) (book_SpoilBytes_l0_b K) n
noncomputable def book_SpoilBytes_l1_b (K : Nat) (rec : Sl → Int → World → Option ((Sl × Unit) × World)) (l0 : Sl) (i3 : Int) (w : World) : Option ((Sl × Unit) × World) :=
  if (decide (i3 < 70)) = true then (bnd (bldS prog 25 1 #[(0, (.int .u8 (IntKind.u8.wrap (IntKind.i64.wrap ((IntKind.i64.wrap (7 * i3)) + 3)))))] w) fun s_11 w_12 =>
  bnd (apd prog 25 25 (.slice l0.a l0.len l0.cap) (.slice s_11.a s_11.len s_11.cap) w_12) fun s_13 w_14 =>
  rec s_13 (IntKind.i64.wrap (i3 + 1)) w_14) else (some ((l0, ()), w))
noncomputable def book_SpoilBytes_l1 (K : Nat) (n : Nat) : Sl → Int → World → Option ((Sl × Unit) × World) := iter (fun _ _ _ => none) (book_SpoilBytes_l1_b K) n
/-- coffer/cofferbook.SpoilBytes -/
noncomputable def book_SpoilBytes (K : Nat) (l0 : Sl) (w : World) : Option ((Unit) × World) :=
  bnd (book_SpoilBytes_l0 K K l0 0 w) fun y_5 w_6 =>
  bnd (bldS prog 25 1 #[(0, (.int .u8 1))] w_6) fun s_7 w_8 =>
  bnd (apd prog 25 25 (.slice l0.a l0.len l0.cap) (.slice s_7.a s_7.len s_7.cap) w_8) fun s_9 w_10 =>
  bnd (book_SpoilBytes_l1 K K s_9 0 w_10) fun y_15 w_16 =>
  (y_15.1.a).bind fun p_17 =>
  if (0 : Int) ≤ (IntKind.i64.wrap (((y_15.1.len : Nat) : Int) - 1)) ∧ (IntKind.i64.wrap (((y_15.1.len : Nat) : Int) - 1)) < ((y_15.1.len : Nat) : Int) then ((stC (p_17.add ((Int.toNat (IntKind.i64.wrap (((y_15.1.len : Nat) : Int) - 1))) * 1)) (.int .u8 77) w_16).bind fun w_18 =>
  some ((), w_18)) else none
theorem book_SpoilBytes_l0_ok (K : Nat) (n : Nat) : StmtNOk prog [(0, .sl), (2, .int .i64)] [] [(2, 3), (4, 18)] ((fun n x w => book_SpoilBytes_l0 K n x.1 x.2.1 w) n) (.block 0 (.loop (cd (bodyOf f31) [0, 1, 0, 0]))) :=
    mk_loopN (O := tabL []) (root := (bodyOf f31)) (π := [0, 1, 0, 0]) (id := 0) (Li := [(0, .sl), (2, .int .i64)]) (Lo := []) (S := (fun n x w => book_SpoilBytes_l0 K n x.1 x.2.1 w)) (body := cd (bodyOf f31) [0, 1, 0, 0]) (book_SpoilBytes_Eok K) (book_SpoilBytes_Rok K) rfl (Orc.nil _ _ _) (by kernel_rfl) (fun _ _ => by kernel_rfl) (fun _ _ _ => by kernel_rfl) n
noncomputable def book_SpoilBytes_l0_se (K : Nat) : SE := stmtN [(0, .sl), (2, .int .i64)] [] [(2, 3), (4, 18)] (fun x w => book_SpoilBytes_l0 K K x.1 x.2.1 w)
theorem book_SpoilBytes_l0_se_ok (K : Nat) (R : Rg) (h : subRB [(2, 3), (4, 18)] R = true) : (book_SpoilBytes_l0_se K).Ok prog R (.block 0 (.loop (cd (bodyOf f31) [0, 1, 0, 0]))) := stmtN_ok (Li := [(0, .sl), (2, .int .i64)]) (Lo := []) (S := (fun x w => book_SpoilBytes_l0 K K x.1 x.2.1 w)) (book_SpoilBytes_l0_ok K K) (subR_of h)
theorem book_SpoilBytes_l1_ok (K : Nat) (n : Nat) : StmtNOk prog [(0, .sl), (3, .int .i64)] [(0, .sl)] [(0, 1), (3, 4), (21, 32)] ((fun n x w => book_SpoilBytes_l1 K n x.1 x.2.1 w) n) (.block 2 (.loop (cd (bodyOf f31) [1, 1, 0, 1, 0, 0]))) :=
    mk_loopN (O := tabL []) (root := (bodyOf f31)) (π := [1, 1, 0, 1, 0, 0]) (id := 2) (Li := [(0, .sl), (3, .int .i64)]) (Lo := [(0, .sl)]) (S := (fun n x w => book_SpoilBytes_l1 K n x.1 x.2.1 w)) (body := cd (bodyOf f31) [1, 1, 0, 1, 0, 0]) (book_SpoilBytes_Eok K) (book_SpoilBytes_Rok K) rfl (Orc.nil _ _ _) (by kernel_rfl) (fun _ _ => by kernel_rfl) (fun _ _ _ => by kernel_rfl) n
noncomputable def book_SpoilBytes_l1_se (K : Nat) : SE := stmtN [(0, .sl), (3, .int .i64)] [(0, .sl)] [(0, 1), (3, 4), (21, 32)] (fun x w => book_SpoilBytes_l1 K K x.1 x.2.1 w)
theorem book_SpoilBytes_l1_se_ok (K : Nat) (R : Rg) (h : subRB [(0, 1), (3, 4), (21, 32)] R = true) : (book_SpoilBytes_l1_se K).Ok prog R (.block 2 (.loop (cd (bodyOf f31) [1, 1, 0, 1, 0, 0]))) := stmtN_ok (Li := [(0, .sl), (3, .int .i64)]) (Lo := [(0, .sl)]) (S := (fun x w => book_SpoilBytes_l1 K K x.1 x.2.1 w)) (book_SpoilBytes_l1_ok K K) (subR_of h)
theorem book_SpoilBytes_facts : FunFacts prog 31 f31 (bodyOf f31) [(0, .sl)] [(0, 37)] := ⟨func31, by kernel_rfl, by kernel_rfl, by kernel_rfl, by kernel_rfl, by kernel_rfl⟩
theorem book_SpoilBytes_calls (K : Nat) (x : TT [(0, .sl)]) (w : World) (y : TR []) (w2 : World) (h : book_SpoilBytes K x.1 w = some (y, w2)) : Calls prog 31 (encA [(0, .sl)] x).toArray w (fun e w3 => e = .returned (resV (encR [] y)) ∧ w3 = w2) :=
    mk_fun (O := tabL [([0, 1], book_SpoilBytes_l0_se K), ([1, 1, 0, 1], book_SpoilBytes_l1_se K)]) (Lp := [(0, .sl)]) (Rt := []) (S := (fun x w => book_SpoilBytes K x.1 w)) (book_SpoilBytes_Eok K) (book_SpoilBytes_Rok K) rfl book_SpoilBytes_facts (Orc.cons (by kernel_rfl) (book_SpoilBytes_l0_se_ok K [(0, 37)] (by kernel_rfl)) (Orc.cons (by kernel_rfl) (book_SpoilBytes_l1_se_ok K [(0, 37)] (by kernel_rfl)) (Orc.nil _ _ _))) (fun _ _ => by kernel_rfl) x w y w2 h
noncomputable def book_SpoilBytes_ce (K : Nat) : CE := funE [(0, .sl)] [] (fun x w => book_SpoilBytes K x.1 w)
theorem book_SpoilBytes_ok (K : Nat) : (book_SpoilBytes_ce K).Ok prog 31 := funE_ok (Rt := []) (S := (fun x w => book_SpoilBytes K x.1 w)) book_SpoilBytes_facts fun x w y w2 h => book_SpoilBytes_calls K x w y w2 h

noncomputable def law01_read_E (K : Nat) : List (Nat × CE) := [(14, digest_FromHex_ce K), (15, digest_FromBase64_ce K), (9, book_SameBytes_ce K), (31, book_SpoilBytes_ce K)]
theorem law01_read_Eok (K : Nat) : Env.Ok prog (tab (law01_read_E K)) := (Env.cons (digest_FromHex_ok K) (Env.cons (digest_FromBase64_ok K) (Env.cons (book_SameBytes_ok K) (Env.cons (book_SpoilBytes_ok K) (Env.nil _)))))
noncomputable def law01_read_R (K : Nat) : List (Nat × RE) := [(7, law01_num_re)]
theorem law01_read_Rok (K : Nat) : REnv.Ok prog (tab (law01_read_R K)) := (REnv.cons (law01_num_ok) (REnv.nil _))
noncomputable def law01_read_s0 (K : Nat) (w2 : Sl) (want3 : Int) (place4 : Int) (a11 : Sl) (e12 : Int) (i13 : Int) (b14 : Sl) (f15 : Int) (k16 : Int) (w : World) : Option ((Bool × Unit) × World) :=
  (law01_num e12).bind fun r_17 =>
  if (r_17.1 != want3) = true then (some ((true, ()), w)) else ((law01_num f15).bind fun r_18 =>
  if (r_18.1 != want3) = true then (some ((true, ()), w)) else (if (i13 != place4) = true then (some ((true, ()), w)) else (if (k16 != place4) = true then (some ((true, ()), w)) else (bnd (book_SameBytes K a11 w2 w) fun r_19 w_20 =>
  if (!r_19.1) = true then (some ((true, ()), w_20)) else (bnd (book_SameBytes K b14 w2 w_20) fun r_21 w_22 =>
  some (((!r_21.1), ()), w_22))))))
/-- coffer/cofferlaw01.read -/
noncomputable def law01_read (K : Nat) (from0 : Value) (s1 : ByteArray) (w2 : Sl) (want3 : Int) (place4 : Int) (w : World) : Option ((Bool × Unit) × World) :=
  dyn (tab (law01_read_E K)) from0 [(.string s1)] w fun v_1 w_2 =>
  tupX v_1 0 fun v_3 =>
  (asS v_3).bind fun v_4 =>
  tupX v_1 1 fun v_5 =>
  (asI .i64 v_5).bind fun v_6 =>
  tupX v_1 2 fun v_7 =>
  (asI .i64 v_7).bind fun v_8 =>
  dyn (tab (law01_read_E K)) from0 [(.string s1)] w_2 fun v_9 w_10 =>
  tupX v_9 0 fun v_11 =>
  (asS v_11).bind fun v_12 =>
  tupX v_9 1 fun v_13 =>
  (asI .i64 v_13).bind fun v_14 =>
  tupX v_9 2 fun v_15 =>
  (asI .i64 v_15).bind fun v_16 =>
  bnd (law01_read_s0 K w2 want3 place4 v_4 v_6 v_8 v_12 v_14 v_16 w_10) fun y_23 w_24 =>
  if y_23.1 = true then (some ((false, ()), w_24)) else (bnd (book_SpoilBytes K v_4 w_24) fun r_25 w_26 =>
  bnd (book_SameBytes K v_12 w2 w_26) fun r_27 w_28 =>
  some ((r_27.1, ()), w_28))
theorem law01_read_s0_ok (K : Nat) : StmtNOk prog [(2, .sl), (3, .int .i64), (4, .int .i64), (11, .sl), (12, .int .i64), (13, .int .i64), (14, .sl), (15, .int .i64), (16, .int .i64)] [(62, .bool)] [(31, 63)] (fun x w => law01_read_s0 K x.1 x.2.1 x.2.2.1 x.2.2.2.1 x.2.2.2.2.1 x.2.2.2.2.2.1 x.2.2.2.2.2.2.1 x.2.2.2.2.2.2.2.1 x.2.2.2.2.2.2.2.2.1 w) (cd (bodyOf f21) [1, 1, 1, 0, 0]) :=
    mk_stmtN (O := tabL []) (root := (bodyOf f21)) (π := [1, 1, 1, 0, 0]) (Li := [(2, .sl), (3, .int .i64), (4, .int .i64), (11, .sl), (12, .int .i64), (13, .int .i64), (14, .sl), (15, .int .i64), (16, .int .i64)]) (Lo := [(62, .bool)]) (S := (fun x w => law01_read_s0 K x.1 x.2.1 x.2.2.1 x.2.2.2.1 x.2.2.2.2.1 x.2.2.2.2.2.1 x.2.2.2.2.2.2.1 x.2.2.2.2.2.2.2.1 x.2.2.2.2.2.2.2.2.1 w)) (law01_read_Eok K) (law01_read_Rok K) rfl (Orc.nil _ _ _) (by kernel_rfl) (fun _ _ => by kernel_rfl)
noncomputable def law01_read_s0_se (K : Nat) : SE := stmtN [(2, .sl), (3, .int .i64), (4, .int .i64), (11, .sl), (12, .int .i64), (13, .int .i64), (14, .sl), (15, .int .i64), (16, .int .i64)] [(62, .bool)] [(31, 63)] (fun x w => law01_read_s0 K x.1 x.2.1 x.2.2.1 x.2.2.2.1 x.2.2.2.2.1 x.2.2.2.2.2.1 x.2.2.2.2.2.2.1 x.2.2.2.2.2.2.2.1 x.2.2.2.2.2.2.2.2.1 w)
theorem law01_read_s0_se_ok (K : Nat) (R : Rg) (h : subRB [(31, 63)] R = true) : (law01_read_s0_se K).Ok prog R (cd (bodyOf f21) [1, 1, 1, 0, 0]) := stmtN_ok (Li := [(2, .sl), (3, .int .i64), (4, .int .i64), (11, .sl), (12, .int .i64), (13, .int .i64), (14, .sl), (15, .int .i64), (16, .int .i64)]) (Lo := [(62, .bool)]) (S := (fun x w => law01_read_s0 K x.1 x.2.1 x.2.2.1 x.2.2.2.1 x.2.2.2.2.1 x.2.2.2.2.2.1 x.2.2.2.2.2.2.1 x.2.2.2.2.2.2.2.1 x.2.2.2.2.2.2.2.2.1 w)) (law01_read_s0_ok K) (subR_of h)
theorem law01_read_facts : FunFacts prog 21 f21 (bodyOf f21) [(0, .val), (1, .str), (2, .sl), (3, .int .i64), (4, .int .i64)] [(0, 68)] := ⟨func21, by kernel_rfl, by kernel_rfl, by kernel_rfl, by kernel_rfl, by kernel_rfl⟩
theorem law01_read_calls (K : Nat) (x : TT [(0, .val), (1, .str), (2, .sl), (3, .int .i64), (4, .int .i64)]) (w : World) (y : TR [.bool]) (w2 : World) (h : law01_read K x.1 x.2.1 x.2.2.1 x.2.2.2.1 x.2.2.2.2.1 w = some (y, w2)) : Calls prog 21 (encA [(0, .val), (1, .str), (2, .sl), (3, .int .i64), (4, .int .i64)] x).toArray w (fun e w3 => e = .returned (resV (encR [.bool] y)) ∧ w3 = w2) :=
    mk_fun (O := tabL [([1, 1, 1, 0, 0], law01_read_s0_se K)]) (Lp := [(0, .val), (1, .str), (2, .sl), (3, .int .i64), (4, .int .i64)]) (Rt := [.bool]) (S := (fun x w => law01_read K x.1 x.2.1 x.2.2.1 x.2.2.2.1 x.2.2.2.2.1 w)) (law01_read_Eok K) (law01_read_Rok K) rfl law01_read_facts (Orc.cons (by kernel_rfl) (law01_read_s0_se_ok K [(0, 68)] (by kernel_rfl)) (Orc.nil _ _ _)) (fun _ _ => by kernel_rfl) x w y w2 h
noncomputable def law01_read_ce (K : Nat) : CE := funE [(0, .val), (1, .str), (2, .sl), (3, .int .i64), (4, .int .i64)] [.bool] (fun x w => law01_read K x.1 x.2.1 x.2.2.1 x.2.2.2.1 x.2.2.2.2.1 w)
theorem law01_read_ok (K : Nat) : (law01_read_ce K).Ok prog 21 := funE_ok (Rt := [.bool]) (S := (fun x w => law01_read K x.1 x.2.1 x.2.2.1 x.2.2.2.1 x.2.2.2.2.1 w)) law01_read_facts fun x w y w2 h => law01_read_calls K x w y w2 h

noncomputable def law01_DigestTexts_E (K : Nat) : List (Nat × CE) := [(8, book_Bytes_ce K), (12, digest_Hex_ce K), (17, ref01_Hex_ce K), (13, digest_Base64_ce K), (18, ref01_Base64_ce K), (11, book_WholeBytes_ce K), (19, ref01_FromHex_ce K), (20, ref01_FromBase64_ce K), (21, law01_read_ce K)]
theorem law01_DigestTexts_Eok (K : Nat) : Env.Ok prog (tab (law01_DigestTexts_E K)) := (Env.cons (book_Bytes_ok K) (Env.cons (digest_Hex_ok K) (Env.cons (ref01_Hex_ok K) (Env.cons (digest_Base64_ok K) (Env.cons (ref01_Base64_ok K) (Env.cons (book_WholeBytes_ok K) (Env.cons (ref01_FromHex_ok K) (Env.cons (ref01_FromBase64_ok K) (Env.cons (law01_read_ok K) (Env.nil _))))))))))
noncomputable def law01_DigestTexts_R (K : Nat) : List (Nat × RE) := []
theorem law01_DigestTexts_Rok (K : Nat) : REnv.Ok prog (tab (law01_DigestTexts_R K)) := (REnv.nil _)
noncomputable def law01_DigestTexts_s0 (K : Nat) (s0 : ByteArray) (b1 : Sl) (w : World) : Option ((Bool × Unit) × World) :=
  if (decide (((s0.size : Nat) : Int) > 65536)) = true then (some ((true, ()), w)) else (some (((decide (((b1.len : Nat) : Int) > 65536)), ()), w))
noncomputable def law01_DigestTexts_s1 (K : Nat) (b1 : Sl) (x5 : Sl) (w : World) : Option ((Bool × Unit) × World) :=
  bnd (digest_Hex K x5 w) fun r_5 w_6 =>
  bnd (ref01_Hex K b1 w_6) fun r_7 w_8 =>
  if (!(r_5.1.toList == r_7.1.toList)) = true then (some ((true, ()), w_8)) else (bnd (digest_Base64 K x5 w_8) fun r_9 w_10 =>
  bnd (ref01_Base64 K b1 w_10) fun r_11 w_12 =>
  if (!(r_9.1.toList == r_11.1.toList)) = true then (some ((true, ()), w_12)) else (bnd (book_WholeBytes K x5 b1 w_12) fun r_13 w_14 =>
  some (((!r_13.1), ()), w_14)))
/-- coffer/cofferlaw01.DigestTexts -/
noncomputable def law01_DigestTexts (K : Nat) (s0 : ByteArray) (b1 : Sl) (w : World) : Option ((Bool × Unit) × World) :=
  bnd (law01_DigestTexts_s0 K s0 b1 w) fun y_1 w_2 =>
  if y_1.1 = true then (some ((true, ()), w_2)) else (bnd (book_Bytes K b1 w_2) fun r_3 w_4 =>
  bnd (law01_DigestTexts_s1 K b1 r_3.1 w_4) fun y_15 w_16 =>
  if y_15.1 = true then (some ((false, ()), w_16)) else (bnd (ref01_FromHex K s0 w_16) fun r_17 w_18 =>
  bnd (ref01_FromBase64 K s0 w_18) fun r_19 w_20 =>
  bnd (law01_read K (.func (.func 14) #[] #[]) s0 r_17.1 r_17.2.1 r_17.2.2.1 w_20) fun r_21 w_22 =>
  if r_21.1 = true then (bnd (law01_read K (.func (.func 15) #[] #[]) s0 r_19.1 r_19.2.1 r_19.2.2.1 w_22) fun r_23 w_24 =>
  some ((r_23.1, ()), w_24)) else (some ((false, ()), w_22))))
theorem law01_DigestTexts_s0_ok (K : Nat) : StmtNOk prog [(0, .str), (1, .sl)] [(19, .bool)] [(12, 20)] (fun x w => law01_DigestTexts_s0 K x.1 x.2.1 w) (cd (bodyOf f6) [1, 0, 0]) :=
    mk_stmtN (O := tabL []) (root := (bodyOf f6)) (π := [1, 0, 0]) (Li := [(0, .str), (1, .sl)]) (Lo := [(19, .bool)]) (S := (fun x w => law01_DigestTexts_s0 K x.1 x.2.1 w)) (law01_DigestTexts_Eok K) (law01_DigestTexts_Rok K) rfl (Orc.nil _ _ _) (by kernel_rfl) (fun _ _ => by kernel_rfl)
noncomputable def law01_DigestTexts_s0_se (K : Nat) : SE := stmtN [(0, .str), (1, .sl)] [(19, .bool)] [(12, 20)] (fun x w => law01_DigestTexts_s0 K x.1 x.2.1 w)
theorem law01_DigestTexts_s0_se_ok (K : Nat) (R : Rg) (h : subRB [(12, 20)] R = true) : (law01_DigestTexts_s0_se K).Ok prog R (cd (bodyOf f6) [1, 0, 0]) := stmtN_ok (Li := [(0, .str), (1, .sl)]) (Lo := [(19, .bool)]) (S := (fun x w => law01_DigestTexts_s0 K x.1 x.2.1 w)) (law01_DigestTexts_s0_ok K) (subR_of h)
theorem law01_DigestTexts_s1_ok (K : Nat) : StmtNOk prog [(1, .sl), (5, .sl)] [(39, .bool)] [(22, 40)] (fun x w => law01_DigestTexts_s1 K x.1 x.2.1 w) (cd (bodyOf f6) [1, 1, 1, 0, 0]) :=
    mk_stmtN (O := tabL []) (root := (bodyOf f6)) (π := [1, 1, 1, 0, 0]) (Li := [(1, .sl), (5, .sl)]) (Lo := [(39, .bool)]) (S := (fun x w => law01_DigestTexts_s1 K x.1 x.2.1 w)) (law01_DigestTexts_Eok K) (law01_DigestTexts_Rok K) rfl (Orc.nil _ _ _) (by kernel_rfl) (fun _ _ => by kernel_rfl)
noncomputable def law01_DigestTexts_s1_se (K : Nat) : SE := stmtN [(1, .sl), (5, .sl)] [(39, .bool)] [(22, 40)] (fun x w => law01_DigestTexts_s1 K x.1 x.2.1 w)
theorem law01_DigestTexts_s1_se_ok (K : Nat) (R : Rg) (h : subRB [(22, 40)] R = true) : (law01_DigestTexts_s1_se K).Ok prog R (cd (bodyOf f6) [1, 1, 1, 0, 0]) := stmtN_ok (Li := [(1, .sl), (5, .sl)]) (Lo := [(39, .bool)]) (S := (fun x w => law01_DigestTexts_s1 K x.1 x.2.1 w)) (law01_DigestTexts_s1_ok K) (subR_of h)
theorem law01_DigestTexts_facts : FunFacts prog 6 f6 (bodyOf f6) [(0, .str), (1, .sl)] [(0, 64)] := ⟨func6, by kernel_rfl, by kernel_rfl, by kernel_rfl, by kernel_rfl, by kernel_rfl⟩
theorem law01_DigestTexts_calls (K : Nat) (x : TT [(0, .str), (1, .sl)]) (w : World) (y : TR [.bool]) (w2 : World) (h : law01_DigestTexts K x.1 x.2.1 w = some (y, w2)) : Calls prog 6 (encA [(0, .str), (1, .sl)] x).toArray w (fun e w3 => e = .returned (resV (encR [.bool] y)) ∧ w3 = w2) :=
    mk_fun (O := tabL [([1, 0, 0], law01_DigestTexts_s0_se K), ([1, 1, 1, 0, 0], law01_DigestTexts_s1_se K)]) (Lp := [(0, .str), (1, .sl)]) (Rt := [.bool]) (S := (fun x w => law01_DigestTexts K x.1 x.2.1 w)) (law01_DigestTexts_Eok K) (law01_DigestTexts_Rok K) rfl law01_DigestTexts_facts (Orc.cons (by kernel_rfl) (law01_DigestTexts_s0_se_ok K [(0, 64)] (by kernel_rfl)) (Orc.cons (by kernel_rfl) (law01_DigestTexts_s1_se_ok K [(0, 64)] (by kernel_rfl)) (Orc.nil _ _ _))) (fun _ _ => by kernel_rfl) x w y w2 h
noncomputable def law01_DigestTexts_ce (K : Nat) : CE := funE [(0, .str), (1, .sl)] [.bool] (fun x w => law01_DigestTexts K x.1 x.2.1 w)
theorem law01_DigestTexts_ok (K : Nat) : (law01_DigestTexts_ce K).Ok prog 6 := funE_ok (Rt := [.bool]) (S := (fun x w => law01_DigestTexts K x.1 x.2.1 w)) law01_DigestTexts_facts fun x w y w2 h => law01_DigestTexts_calls K x w y w2 h

end Go.Sh
