/- Texts of this claim, put together: Sh5, Sh6 -/
import Derived.Test.YtcfolhdacolbjaaDoorAllLawAecodac
import Derived.Test.YtcfolhdacolbjaaDoorProg
/- What functions of the program do, as Lean functions; that the machine does just that. Printed by shal.py, a program of this claim's writer. -/
set_option maxRecDepth 100000
set_option linter.unusedVariables false
namespace Go.Sh
open Go.Fw Go.Proofs.Tryd
def z47 : Array Value := ([.int .i64 0] ++ [.slice none 0 0] : List Value).toArray

noncomputable def shred_Diffuse_E (K : Nat) : List (Nat × CE) := [(21, digest_Size_ce), (22, shred_blender_mix_ce K), (23, shred_blender_spread_ce K)]
theorem shred_Diffuse_Eok (K : Nat) : Env.Ok prog (tab (shred_Diffuse_E K)) := (Env.cons (digest_Size_ok) (Env.cons (shred_blender_mix_ok K) (Env.cons (shred_blender_spread_ok K) (Env.nil _))))
noncomputable def shred_Diffuse_R (K : Nat) : List (Nat × RE) := []
theorem shred_Diffuse_Rok (K : Nat) : REnv.Ok prog (tab (shred_Diffuse_R K)) := (REnv.nil _)
/-- coffer/shred.Diffuse -/
noncomputable def shred_Diffuse {β : Type} (K : Nat) (hash0 : Int) (block1 : Sl) (w : World) (k : (Sl × Int × Unit) → World → Option β) : Option β :=
  bnd (digest_Size hash0 w) fun r_1 w_2 =>
  if (r_1.1 == 0) = true then (k (⟨none, 0, 0⟩, 10, ()) w_2) else (if (decide (((block1.len : Nat) : Int) > 1024)) = true then (k (⟨none, 0, 0⟩, 4, ()) w_2) else (bnd (mkS prog 22 (.int .i64 ((block1.len : Nat) : Int)) (.int .i64 ((block1.len : Nat) : Int)) w_2) fun s_3 w_4 =>
  (prog.built 45 [(0, (.slice s_3.a s_3.len s_3.cap))]).bind fun cs_5 =>
  (prog.built 47 [(0, (.int .i64 hash0)), (1, (.agg cs_5))]).bind fun cs_6 =>
  bnd (newB z47 47 w_4) fun b_7 w_8 =>
  if (cs_6).size = 2 then ((stA b_7 cs_6 w_8).bind fun w_9 =>
  bnd (shred_blender_mix K (some b_7) block1 w_9) fun r_10 w_11 =>
  shred_blender_spread K (some b_7) w_11 fun r_12 w_13 =>
  (ldS ((b_7.add 1).add 0) w_13).bind fun v_14 =>
  k (v_14, 0, ()) w_13) else none))
theorem shred_Diffuse_facts : FunFacts prog 9 f9 (bodyOf f9) [(0, .int .i64), (1, .sl)] [(0, 27)] := ⟨func9, by kernel_rfl, by kernel_rfl, by kernel_rfl, by kernel_rfl, by kernel_rfl⟩
theorem shred_Diffuse_calls (K : Nat) {β : Type} (x : TT [(0, .int .i64), (1, .sl)]) (w : World) (k : TR [.sl, .int .i64] → World → Option β) (r : β) (h : shred_Diffuse K x.1 x.2.1 w k = some r) : Calls prog 9 (encA [(0, .int .i64), (1, .sl)] x).toArray w (fun e w3 => ∃ y, e = .returned (resV (encR [.sl, .int .i64] y)) ∧ k y w3 = some r) :=
    mk_funC (O := tabL []) (Lp := [(0, .int .i64), (1, .sl)]) (Rt := [.sl, .int .i64]) (S := (fun x w k => shred_Diffuse K x.1 x.2.1 w k)) (shred_Diffuse_Eok K) (shred_Diffuse_Rok K) rfl shred_Diffuse_facts (Orc.nil _ _ _) (fun _ _ _ => by kernel_rfl) x w k r h
noncomputable def shred_Diffuse_ce (K : Nat) : CE := funC [(0, .int .i64), (1, .sl)] [.sl, .int .i64] (fun {_} x w k => shred_Diffuse K x.1 x.2.1 w k)
theorem shred_Diffuse_ok (K : Nat) : (shred_Diffuse_ce K).Ok prog 9 := funC_ok (Rt := [.sl, .int .i64]) (S := (fun {_} x w k => shred_Diffuse K x.1 x.2.1 w k)) shred_Diffuse_facts fun x w k r h => shred_Diffuse_calls K x w k r h

noncomputable def law04_ShredDiffuses_E (K : Nat) : List (Nat × CE) := [(8, book_Bytes_ce K), (9, shred_Diffuse_ce K), (10, ref04_Diffuse_ce K), (12, book_SameBytes_ce K), (13, book_WholeBytes_ce K), (14, book_SpoilBytes_ce K)]
theorem law04_ShredDiffuses_Eok (K : Nat) : Env.Ok prog (tab (law04_ShredDiffuses_E K)) := (Env.cons (book_Bytes_ok K) (Env.cons (shred_Diffuse_ok K) (Env.cons (ref04_Diffuse_ok K) (Env.cons (book_SameBytes_ok K) (Env.cons (book_WholeBytes_ok K) (Env.cons (book_SpoilBytes_ok K) (Env.nil _)))))))
noncomputable def law04_ShredDiffuses_R (K : Nat) : List (Nat × RE) := [(11, law04_num_re)]
theorem law04_ShredDiffuses_Rok (K : Nat) : REnv.Ok prog (tab (law04_ShredDiffuses_R K)) := (REnv.cons (law04_num_ok) (REnv.nil _))
noncomputable def law04_ShredDiffuses_s0 (K : Nat) (block1 : Sl) (b5 : Sl) (x6 : Sl) (e7 : Int) (g9 : Int) (y10 : Sl) (f11 : Int) (w12 : Sl) (want13 : Int) (w : World) : Option ((Bool × Unit) × World) :=
  (law04_num e7).bind fun r_17 =>
  if (r_17.1 != want13) = true then (some ((true, ()), w)) else ((law04_num f11).bind fun r_18 =>
  if (r_18.1 != want13) = true then (some ((true, ()), w)) else ((law04_num g9).bind fun r_19 =>
  if (r_19.1 != 0) = true then (some ((true, ()), w)) else (bnd (book_SameBytes K x6 w12 w) fun r_20 w_21 =>
  if (!r_20.1) = true then (some ((true, ()), w_21)) else (bnd (book_SameBytes K y10 w12 w_21) fun r_22 w_23 =>
  if (!r_22.1) = true then (some ((true, ()), w_23)) else (bnd (book_WholeBytes K b5 block1 w_23) fun r_24 w_25 =>
  some (((!r_24.1), ()), w_25))))))
/-- coffer/cofferlaw04.ShredDiffuses -/
noncomputable def law04_ShredDiffuses {β : Type} (K : Nat) (hash0 : Int) (block1 : Sl) (w : World) (k : (Bool × Unit) → World → Option β) : Option β :=
  bnd (book_Bytes K block1 w) fun r_1 w_2 =>
  shred_Diffuse K hash0 r_1.1 w_2 fun r_3 w_4 =>
  bnd (bldS prog 22 2 #[(0, (.int .u8 1)), (1, (.int .u8 2))] w_4) fun s_5 w_6 =>
  shred_Diffuse K 256 s_5 w_6 fun r_7 w_8 =>
  shred_Diffuse K hash0 r_1.1 w_8 fun r_9 w_10 =>
  bnd (ref04_Diffuse K hash0 block1 w_10) fun r_11 w_12 =>
  bnd (bldS prog 22 2 #[(0, (.int .u8 1)), (1, (.int .u8 2))] w_12) fun s_13 w_14 =>
  bnd (ref04_Diffuse K 256 s_13 w_14) fun r_15 w_16 =>
  bnd (law04_ShredDiffuses_s0 K block1 r_1.1 r_3.1 r_3.2.1 r_7.2.1 r_9.1 r_9.2.1 r_11.1 r_11.2.1 w_16) fun y_26 w_27 =>
  if y_26.1 = true then (k (false, ()) w_27) else (bnd (book_SpoilBytes K r_3.1 w_27) fun r_28 w_29 =>
  bnd (book_SameBytes K r_9.1 r_11.1 w_29) fun r_30 w_31 =>
  if r_30.1 = true then (bnd (book_SameBytes K r_7.1 r_15.1 w_31) fun r_32 w_33 =>
  k (r_32.1, ()) w_33) else (k (false, ()) w_31))
theorem law04_ShredDiffuses_s0_ok (K : Nat) : StmtNOk prog [(1, .sl), (5, .sl), (6, .sl), (7, .int .i64), (9, .int .i64), (10, .sl), (11, .int .i64), (12, .sl), (13, .int .i64)] [(78, .bool)] [(46, 79)] (fun x w => law04_ShredDiffuses_s0 K x.1 x.2.1 x.2.2.1 x.2.2.2.1 x.2.2.2.2.1 x.2.2.2.2.2.1 x.2.2.2.2.2.2.1 x.2.2.2.2.2.2.2.1 x.2.2.2.2.2.2.2.2.1 w) (cd (bodyOf f3) [1, 1, 1, 1, 1, 1, 1, 0, 0]) :=
    mk_stmtN (O := tabL []) (root := (bodyOf f3)) (π := [1, 1, 1, 1, 1, 1, 1, 0, 0]) (Li := [(1, .sl), (5, .sl), (6, .sl), (7, .int .i64), (9, .int .i64), (10, .sl), (11, .int .i64), (12, .sl), (13, .int .i64)]) (Lo := [(78, .bool)]) (S := (fun x w => law04_ShredDiffuses_s0 K x.1 x.2.1 x.2.2.1 x.2.2.2.1 x.2.2.2.2.1 x.2.2.2.2.2.1 x.2.2.2.2.2.2.1 x.2.2.2.2.2.2.2.1 x.2.2.2.2.2.2.2.2.1 w)) (law04_ShredDiffuses_Eok K) (law04_ShredDiffuses_Rok K) rfl (Orc.nil _ _ _) (by kernel_rfl) (fun _ _ => by kernel_rfl)
noncomputable def law04_ShredDiffuses_s0_se (K : Nat) : SE := stmtN [(1, .sl), (5, .sl), (6, .sl), (7, .int .i64), (9, .int .i64), (10, .sl), (11, .int .i64), (12, .sl), (13, .int .i64)] [(78, .bool)] [(46, 79)] (fun x w => law04_ShredDiffuses_s0 K x.1 x.2.1 x.2.2.1 x.2.2.2.1 x.2.2.2.2.1 x.2.2.2.2.2.1 x.2.2.2.2.2.2.1 x.2.2.2.2.2.2.2.1 x.2.2.2.2.2.2.2.2.1 w)
theorem law04_ShredDiffuses_s0_se_ok (K : Nat) (R : Rg) (h : subRB [(46, 79)] R = true) : (law04_ShredDiffuses_s0_se K).Ok prog R (cd (bodyOf f3) [1, 1, 1, 1, 1, 1, 1, 0, 0]) := stmtN_ok (Li := [(1, .sl), (5, .sl), (6, .sl), (7, .int .i64), (9, .int .i64), (10, .sl), (11, .int .i64), (12, .sl), (13, .int .i64)]) (Lo := [(78, .bool)]) (S := (fun x w => law04_ShredDiffuses_s0 K x.1 x.2.1 x.2.2.1 x.2.2.2.1 x.2.2.2.2.1 x.2.2.2.2.2.1 x.2.2.2.2.2.2.1 x.2.2.2.2.2.2.2.1 x.2.2.2.2.2.2.2.2.1 w)) (law04_ShredDiffuses_s0_ok K) (subR_of h)
theorem law04_ShredDiffuses_facts : FunFacts prog 3 f3 (bodyOf f3) [(0, .int .i64), (1, .sl)] [(0, 89)] := ⟨func3, by kernel_rfl, by kernel_rfl, by kernel_rfl, by kernel_rfl, by kernel_rfl⟩
theorem law04_ShredDiffuses_calls (K : Nat) {β : Type} (x : TT [(0, .int .i64), (1, .sl)]) (w : World) (k : TR [.bool] → World → Option β) (r : β) (h : law04_ShredDiffuses K x.1 x.2.1 w k = some r) : Calls prog 3 (encA [(0, .int .i64), (1, .sl)] x).toArray w (fun e w3 => ∃ y, e = .returned (resV (encR [.bool] y)) ∧ k y w3 = some r) :=
    mk_funC (O := tabL [([1, 1, 1, 1, 1, 1, 1, 0, 0], law04_ShredDiffuses_s0_se K)]) (Lp := [(0, .int .i64), (1, .sl)]) (Rt := [.bool]) (S := (fun x w k => law04_ShredDiffuses K x.1 x.2.1 w k)) (law04_ShredDiffuses_Eok K) (law04_ShredDiffuses_Rok K) rfl law04_ShredDiffuses_facts (Orc.cons (by kernel_rfl) (law04_ShredDiffuses_s0_se_ok K [(0, 89)] (by kernel_rfl)) (Orc.nil _ _ _)) (fun _ _ _ => by kernel_rfl) x w k r h
noncomputable def law04_ShredDiffuses_ce (K : Nat) : CE := funC [(0, .int .i64), (1, .sl)] [.bool] (fun {_} x w k => law04_ShredDiffuses K x.1 x.2.1 w k)
theorem law04_ShredDiffuses_ok (K : Nat) : (law04_ShredDiffuses_ce K).Ok prog 3 := funC_ok (Rt := [.bool]) (S := (fun {_} x w k => law04_ShredDiffuses K x.1 x.2.1 w k)) law04_ShredDiffuses_facts fun x w k r h => law04_ShredDiffuses_calls K x w k r h

noncomputable def shred_blender_through_E (K : Nat) : List (Nat × CE) := [(22, shred_blender_mix_ce K), (23, shred_blender_spread_ce K)]
theorem shred_blender_through_Eok (K : Nat) : Env.Ok prog (tab (shred_blender_through_E K)) := (Env.cons (shred_blender_mix_ok K) (Env.cons (shred_blender_spread_ok K) (Env.nil _)))
noncomputable def shred_blender_through_R (K : Nat) : List (Nat × RE) := []
theorem shred_blender_through_Rok (K : Nat) : REnv.Ok prog (tab (shred_blender_through_R K)) := (REnv.nil _)
noncomputable def shred_blender_through_l0_b {β : Type} (K : Nat) (rec : Option Addr → Sl → Int → World → ((Unit) → World → Option β) → Option β) (b0 : Option Addr) (stripes1 : Sl) (n4 : Int) (w : World) (k : (Unit) → World → Option β) : Option β :=
  if (decide (((stripes1.len : Nat) : Int) > 0)) = true then (if (0 : Int) ≤ n4 ∧ n4 ≤ ((stripes1.cap : Nat) : Int) then (bnd (shred_blender_mix K b0 ⟨(sla stripes1.a 0 stripes1.cap 1), ((Int.toNat (n4)) - 0), (stripes1.cap - 0)⟩ w) fun r_3 w_4 =>
  shred_blender_spread K b0 w_4 fun r_5 w_6 =>
  if (0 : Int) ≤ n4 ∧ n4 ≤ ((stripes1.len : Nat) : Int) then (rec b0 ⟨(sla stripes1.a (Int.toNat (n4)) stripes1.cap 1), (stripes1.len - (Int.toNat (n4))), (stripes1.cap - (Int.toNat (n4)))⟩ n4 w_6 k) else none) else none) else (k () w)
noncomputable def shred_blender_through_l0 {β : Type} (K : Nat) (n : Nat) : Option Addr → Sl → Int → World → ((Unit) → World → Option β) → Option β := iter (fun _ _ _ _ _ => none) (shred_blender_through_l0_b K) n
/-- (*coffer/shred.blender).through -/
noncomputable def shred_blender_through {β : Type} (K : Nat) (b0 : Option Addr) (stripes1 : Sl) (w : World) (k : (Unit) → World → Option β) : Option β :=
  (b0).bind fun p_1 =>
  (ldS ((p_1.add 1).add 0) w).bind fun v_2 =>
  shred_blender_through_l0 K K b0 stripes1 ((v_2.len : Nat) : Int) w fun y_7 w_8 =>
  k () w_8
theorem shred_blender_through_l0_ok (K : Nat) (n : Nat) : StmtCOk prog [(0, .ptr), (1, .sl), (4, .int .i64)] [] [(1, 2), (11, 24)] (fun {_} x w k => shred_blender_through_l0 K n x.1 x.2.1 x.2.2.1 w k) (.block 0 (.loop (cd (bodyOf f27) [1, 0, 0]))) :=
    mk_loopC (O := tabL []) (root := (bodyOf f27)) (π := [1, 0, 0]) (id := 0) (Li := [(0, .ptr), (1, .sl), (4, .int .i64)]) (Lo := []) (S := (fun n {_} x w k => shred_blender_through_l0 K n x.1 x.2.1 x.2.2.1 w k)) (body := cd (bodyOf f27) [1, 0, 0]) (shred_blender_through_Eok K) (shred_blender_through_Rok K) rfl (Orc.nil _ _ _) (by kernel_rfl) (fun _ _ _ => by kernel_rfl) (fun _ _ _ _ => by kernel_rfl) n
noncomputable def shred_blender_through_l0_se (K : Nat) : SE := stmtC [(0, .ptr), (1, .sl), (4, .int .i64)] [] [(1, 2), (11, 24)] (fun {_} x w k => shred_blender_through_l0 K K x.1 x.2.1 x.2.2.1 w k)
theorem shred_blender_through_l0_se_ok (K : Nat) (R : Rg) (h : subRB [(1, 2), (11, 24)] R = true) : (shred_blender_through_l0_se K).Ok prog R (.block 0 (.loop (cd (bodyOf f27) [1, 0, 0]))) := stmtC_ok (Li := [(0, .ptr), (1, .sl), (4, .int .i64)]) (Lo := []) (S := (fun {_} x w k => shred_blender_through_l0 K K x.1 x.2.1 x.2.2.1 w k)) (shred_blender_through_l0_ok K K) (subR_of h)
theorem shred_blender_through_facts : FunFacts prog 27 f27 (bodyOf f27) [(0, .ptr), (1, .sl)] [(0, 24)] := ⟨func27, by kernel_rfl, by kernel_rfl, by kernel_rfl, by kernel_rfl, by kernel_rfl⟩
theorem shred_blender_through_calls (K : Nat) {β : Type} (x : TT [(0, .ptr), (1, .sl)]) (w : World) (k : TR [] → World → Option β) (r : β) (h : shred_blender_through K x.1 x.2.1 w k = some r) : Calls prog 27 (encA [(0, .ptr), (1, .sl)] x).toArray w (fun e w3 => ∃ y, e = .returned (resV (encR [] y)) ∧ k y w3 = some r) :=
    mk_funC (O := tabL [([1], shred_blender_through_l0_se K)]) (Lp := [(0, .ptr), (1, .sl)]) (Rt := []) (S := (fun x w k => shred_blender_through K x.1 x.2.1 w k)) (shred_blender_through_Eok K) (shred_blender_through_Rok K) rfl shred_blender_through_facts (Orc.cons (by kernel_rfl) (shred_blender_through_l0_se_ok K [(0, 24)] (by kernel_rfl)) (Orc.nil _ _ _)) (fun _ _ _ => by kernel_rfl) x w k r h
noncomputable def shred_blender_through_ce (K : Nat) : CE := funC [(0, .ptr), (1, .sl)] [] (fun {_} x w k => shred_blender_through K x.1 x.2.1 w k)
theorem shred_blender_through_ok (K : Nat) : (shred_blender_through_ce K).Ok prog 27 := funC_ok (Rt := []) (S := (fun {_} x w k => shred_blender_through K x.1 x.2.1 w k)) shred_blender_through_facts fun x w k r h => shred_blender_through_calls K x w k r h

noncomputable def shred_Merge_E (K : Nat) : List (Nat × CE) := [(21, digest_Size_ce), (27, shred_blender_through_ce K), (22, shred_blender_mix_ce K)]
theorem shred_Merge_Eok (K : Nat) : Env.Ok prog (tab (shred_Merge_E K)) := (Env.cons (digest_Size_ok) (Env.cons (shred_blender_through_ok K) (Env.cons (shred_blender_mix_ok K) (Env.nil _))))
noncomputable def shred_Merge_R (K : Nat) : List (Nat × RE) := []
theorem shred_Merge_Rok (K : Nat) : REnv.Ok prog (tab (shred_Merge_R K)) := (REnv.nil _)
noncomputable def shred_Merge_s1 (K : Nat) (stripes2 : Int) (w : World) : Option ((Bool × Unit) × World) :=
  if (decide (stripes2 < 1)) = true then (some ((true, ()), w)) else (some (((decide (stripes2 > 4000)), ()), w))
noncomputable def shred_Merge_s0 (K : Nat) (hash0 : Int) (material1 : Sl) (stripes2 : Int) (w : World) : Option ((Out (Unit) (Sl × Int × Unit)) × World) :=
  bnd (digest_Size hash0 w) fun r_1 w_2 =>
  if (r_1.1 == 0) = true then (some (.ret (⟨none, 0, 0⟩, 10, ()), w_2)) else (bnd (shred_Merge_s1 K stripes2 w_2) fun y_3 w_4 =>
  if y_3.1 = true then (some (.ret (⟨none, 0, 0⟩, 40, ()), w_4)) else (if (((material1.len : Nat) : Int) == 0) = true then (some (.ret (⟨none, 0, 0⟩, 41, ()), w_4)) else (if stripes2 ≠ 0 then (if ((Int.tmod ((material1.len : Nat) : Int) stripes2) != 0) = true then (some (.ret (⟨none, 0, 0⟩, 41, ()), w_4)) else (if stripes2 ≠ 0 then (if (decide ((IntKind.i64.wrap (Int.tdiv ((material1.len : Nat) : Int) stripes2)) > 1024)) = true then (some (.ret (⟨none, 0, 0⟩, 41, ()), w_4)) else (some (.norm (), w_4))) else none)) else none)))
noncomputable def shred_Merge_p0 {β : Type} (K : Nat) (hash0 : Int) (material1 : Sl) (stripes2 : Int) (w : World) (k : Out (Sl × Int × Addr × Unit) (Sl × Int × Unit) → World → Option β) : Option β :=
  bnd (shred_Merge_s0 K hash0 material1 stripes2 w) fun y_5 w_6 =>
  (match y_5 with
  | .norm z_7n => (if stripes2 ≠ 0 then (bnd (mkS prog 22 (.int .i64 (IntKind.i64.wrap (Int.tdiv ((material1.len : Nat) : Int) stripes2))) (.int .i64 (IntKind.i64.wrap (Int.tdiv ((material1.len : Nat) : Int) stripes2))) w_6) fun s_8 w_9 =>
  (prog.built 45 [(0, (.slice s_8.a s_8.len s_8.cap))]).bind fun cs_10 =>
  (prog.built 47 [(0, (.int .i64 hash0)), (1, (.agg cs_10))]).bind fun cs_11 =>
  bnd (newB z47 47 w_9) fun b_12 w_13 =>
  if (cs_11).size = 2 then ((stA b_12 cs_11 w_13).bind fun w_14 =>
  k (.norm (material1, (IntKind.i64.wrap (Int.tdiv ((material1.len : Nat) : Int) stripes2)), b_12, ())) w_14) else none) else none)
  | .ret z_7r => (k (.ret (z_7r.1, z_7r.2.1, ())) w_6))
theorem shred_Merge_s1_ok (K : Nat) : StmtNOk prog [(2, .int .i64)] [(14, .bool)] [(14, 21)] (fun x w => shred_Merge_s1 K x.1 w) (cd (chainOf 4 (bodyOf f15)) [1, 0, 0, 1, 1, 0]) :=
    mk_stmtN (O := tabL []) (root := (chainOf 4 (bodyOf f15))) (π := [1, 0, 0, 1, 1, 0]) (Li := [(2, .int .i64)]) (Lo := [(14, .bool)]) (S := (fun x w => shred_Merge_s1 K x.1 w)) (shred_Merge_Eok K) (shred_Merge_Rok K) rfl (Orc.nil _ _ _) (by kernel_rfl) (fun _ _ => by kernel_rfl)
noncomputable def shred_Merge_s1_se (K : Nat) : SE := stmtN [(2, .int .i64)] [(14, .bool)] [(14, 21)] (fun x w => shred_Merge_s1 K x.1 w)
theorem shred_Merge_s1_se_ok (K : Nat) (R : Rg) (h : subRB [(14, 21)] R = true) : (shred_Merge_s1_se K).Ok prog R (cd (chainOf 4 (bodyOf f15)) [1, 0, 0, 1, 1, 0]) := stmtN_ok (Li := [(2, .int .i64)]) (Lo := [(14, .bool)]) (S := (fun x w => shred_Merge_s1 K x.1 w)) (shred_Merge_s1_ok K) (subR_of h)
theorem shred_Merge_s0_ok (K : Nat) : StmtOk prog [(0, .int .i64), (1, .sl), (2, .int .i64)] [] [(6, .sl), (7, .int .i64)] [(6, 8), (10, 39)] (fun x w => shred_Merge_s0 K x.1 x.2.1 x.2.2.1 w) (cd (chainOf 4 (bodyOf f15)) [1, 0]) :=
    mk_stmt (O := tabL [([1, 0, 0, 1, 1, 0], shred_Merge_s1_se K)]) (root := (chainOf 4 (bodyOf f15))) (π := [1, 0]) (Li := [(0, .int .i64), (1, .sl), (2, .int .i64)]) (Lo := []) (Lr := [(6, .sl), (7, .int .i64)]) (S := (fun x w => shred_Merge_s0 K x.1 x.2.1 x.2.2.1 w)) (shred_Merge_Eok K) (shred_Merge_Rok K) rfl (Orc.cons (by kernel_rfl) (shred_Merge_s1_se_ok K [(6, 8), (10, 39)] (by kernel_rfl)) (Orc.nil _ _ _)) (by kernel_rfl) (fun _ _ => by kernel_rfl)
noncomputable def shred_Merge_s0_se (K : Nat) : SE := stmt [(0, .int .i64), (1, .sl), (2, .int .i64)] [] [(6, .sl), (7, .int .i64)] [(6, 8), (10, 39)] (fun x w => shred_Merge_s0 K x.1 x.2.1 x.2.2.1 w)
theorem shred_Merge_s0_se_ok (K : Nat) (R : Rg) (h : subRB [(6, 8), (10, 39)] R = true) : (shred_Merge_s0_se K).Ok prog R (cd (chainOf 4 (bodyOf f15)) [1, 0]) := stmt_ok (Li := [(0, .int .i64), (1, .sl), (2, .int .i64)]) (Lo := []) (Lr := [(6, .sl), (7, .int .i64)]) (S := (fun x w => shred_Merge_s0 K x.1 x.2.1 x.2.2.1 w)) (shred_Merge_s0_ok K) (subR_of h)
def shred_Merge_d (material1 : Sl) (size8 : Int) (b9 : Addr) : List Value := [(.pointer (some (b9.add 1)))]
noncomputable def shred_Merge_t (K : Nat) (material1 : Sl) (size8 : Int) (b9 : Addr) (w : World) : Option (Unit × World) := shred_buffer_wipe (some (b9.add 1)) w
noncomputable def shred_Merge_p1 {β : Type} (K : Nat) (material1 : Sl) (size8 : Int) (b9 : Addr) (w : World) (k : Out Unit (Sl × Int × Unit) → World → Option β) : Option β :=
  if (0 : Int) ≤ (IntKind.i64.wrap (((material1.len : Nat) : Int) - size8)) ∧ (IntKind.i64.wrap (((material1.len : Nat) : Int) - size8)) ≤ ((material1.cap : Nat) : Int) then (shred_blender_through K (some b9) ⟨(sla material1.a 0 material1.cap 1), ((Int.toNat ((IntKind.i64.wrap (((material1.len : Nat) : Int) - size8)))) - 0), (material1.cap - 0)⟩ w fun r_15 w_16 =>
  if (0 : Int) ≤ (IntKind.i64.wrap (((material1.len : Nat) : Int) - size8)) ∧ (IntKind.i64.wrap (((material1.len : Nat) : Int) - size8)) ≤ ((material1.len : Nat) : Int) then (bnd (shred_blender_mix K (some b9) ⟨(sla material1.a (Int.toNat ((IntKind.i64.wrap (((material1.len : Nat) : Int) - size8)))) material1.cap 1), (material1.len - (Int.toNat ((IntKind.i64.wrap (((material1.len : Nat) : Int) - size8))))), (material1.cap - (Int.toNat ((IntKind.i64.wrap (((material1.len : Nat) : Int) - size8)))))⟩ w_16) fun r_17 w_18 =>
  (ldS ((b9.add 1).add 0) w_18).bind fun v_19 =>
  bnd (apd prog 22 22 (.slice none 0 0) (.slice v_19.a v_19.len v_19.cap) w_18) fun s_20 w_21 =>
  k (.ret (s_20, 0, ())) w_21) else none) else none
/-- coffer/shred.Merge -/
  noncomputable def shred_Merge {β : Type} (K : Nat) (hash0 : Int) (material1 : Sl) (stripes2 : Int) (w : World) (k : (Sl × Int × Unit) → World → Option β) : Option β :=
    shred_Merge_p0 K hash0 material1 stripes2 w (deferK (fun z w k => shred_Merge_p1 K z.1 z.2.1 z.2.2.1 w k) (fun z w => shred_Merge_t K z.1 z.2.1 z.2.2.1 w) k)
theorem shred_Merge_facts : FunFacts prog 15 f15 (bodyOf f15) [(0, .int .i64), (1, .sl), (2, .int .i64)] [(0, 67)] := ⟨func15, by kernel_rfl, by kernel_rfl, by kernel_rfl, by kernel_rfl, by kernel_rfl⟩
theorem shred_Merge_def (K : Nat) : DefOk prog [(1, .sl), (8, .int .i64), (9, .addr)] [(48, 49)] 26 (fun x => shred_Merge_d x.1 x.2.1 x.2.2.1) (cd (restOf 4 (bodyOf f15)) [0]) :=
    mk_def (os := (opsOf (cd (restOf 4 (bodyOf f15)) [0])).toList.take 1) (o := (opsOf (cd (restOf 4 (bodyOf f15)) [0])).getD 1 default) (ras := [.tmp 48]) (ts := #[45]) (shred_Merge_Eok K) (shred_Merge_Rok K) (by kernel_rfl) (by kernel_rfl) (by kernel_rfl) (by kernel_rfl) (by kernel_rfl) (fun _ _ => by kernel_rfl)
theorem shred_Merge_p1_ok (K : Nat) : StmtCOOk prog [(1, .sl), (8, .int .i64), (9, .addr)] [] [(6, .sl), (7, .int .i64)] [(0, 67)] (fun {_} x w k => shred_Merge_p1 K x.1 x.2.1 x.2.2.1 w k) (cd (restOf 5 (bodyOf f15)) []) :=
    mk_stmtCO (O := tabL []) (root := (restOf 5 (bodyOf f15))) (π := []) (Li := [(1, .sl), (8, .int .i64), (9, .addr)]) (Lo := []) (Lr := [(6, .sl), (7, .int .i64)]) (S := (fun {_} x w k => shred_Merge_p1 K x.1 x.2.1 x.2.2.1 w k)) (shred_Merge_Eok K) (shred_Merge_Rok K) rfl (Orc.nil _ _ _) (by kernel_rfl) (fun _ _ _ => by kernel_rfl)
theorem shred_Merge_calls (K : Nat) {β : Type} (x : TT [(0, .int .i64), (1, .sl), (2, .int .i64)]) (w : World) (k : TR [.sl, .int .i64] → World → Option β) (r : β) (h : shred_Merge K x.1 x.2.1 x.2.2.1 w k = some r) : Calls prog 15 (encA [(0, .int .i64), (1, .sl), (2, .int .i64)] x).toArray w (fun e w3 => ∃ y, e = .returned (resV (encR [.sl, .int .i64] y)) ∧ k y w3 = some r) :=
    mk_funDefer (n := 4) (O := tabL [([1, 0], shred_Merge_s0_se K), ([1, 0, 0, 1, 1, 0], shred_Merge_s1_se K)]) (Lp := [(0, .int .i64), (1, .sl), (2, .int .i64)]) (Lo := [(1, .sl), (8, .int .i64), (9, .addr)]) (Lr := [(6, .sl), (7, .int .i64)]) (S1 := (fun x w k => shred_Merge_p0 K x.1 x.2.1 x.2.2.1 w k)) (S2 := (fun {_} x w k => shred_Merge_p1 K x.1 x.2.1 x.2.2.1 w k)) (T := (fun x w => shred_Merge_t K x.1 x.2.1 x.2.2.1 w)) (toR := fun y => y) (shred_Merge_Eok K) (shred_Merge_Rok K) rfl shred_Merge_facts (by kernel_rfl) (Orc.cons (by kernel_rfl) (shred_Merge_s0_se_ok K [(0, 67)] (by kernel_rfl)) (Orc.cons (by kernel_rfl) (shred_Merge_s1_se_ok K [(0, 67)] (by kernel_rfl)) (Orc.nil _ _ _))) (fun _ _ _ => by kernel_rfl) (D := (cd (restOf 4 (bodyOf f15)) [0])) (B := (cd (restOf 5 (bodyOf f15)) [])) (by kernel_rfl) (shred_Merge_def K) (subR_of (by kernel_rfl)) (shred_Merge_p1_ok K) (subR_of (by kernel_rfl)) (fun a w => shred_buffer_wipe_facts.enter a w) (fun x w w2 h => (shred_buffer_wipe_callsD ((some (x.2.2.1.add 1)), ()) .returning w () w2 h).mono fun e u w3 ⟨h1, h2, h3⟩ => ⟨h1, ⟨_, h2⟩, h3⟩) (fun _ _ => by kernel_rfl) x w k r (by unfold shred_Merge at h; exact h)
noncomputable def shred_Merge_ce (K : Nat) : CE := funC [(0, .int .i64), (1, .sl), (2, .int .i64)] [.sl, .int .i64] (fun {_} x w k => shred_Merge K x.1 x.2.1 x.2.2.1 w k)
theorem shred_Merge_ok (K : Nat) : (shred_Merge_ce K).Ok prog 15 := funC_ok (Rt := [.sl, .int .i64]) (S := (fun {_} x w k => shred_Merge K x.1 x.2.1 x.2.2.1 w k)) shred_Merge_facts fun x w k r h => shred_Merge_calls K x w k r h

noncomputable def law04_ShredMerges_E (K : Nat) : List (Nat × CE) := [(8, book_Bytes_ce K), (15, shred_Merge_ce K), (16, ref04_Merge_ce K), (12, book_SameBytes_ce K), (13, book_WholeBytes_ce K), (14, book_SpoilBytes_ce K)]
theorem law04_ShredMerges_Eok (K : Nat) : Env.Ok prog (tab (law04_ShredMerges_E K)) := (Env.cons (book_Bytes_ok K) (Env.cons (shred_Merge_ok K) (Env.cons (ref04_Merge_ok K) (Env.cons (book_SameBytes_ok K) (Env.cons (book_WholeBytes_ok K) (Env.cons (book_SpoilBytes_ok K) (Env.nil _)))))))
noncomputable def law04_ShredMerges_R (K : Nat) : List (Nat × RE) := [(11, law04_num_re)]
theorem law04_ShredMerges_Rok (K : Nat) : REnv.Ok prog (tab (law04_ShredMerges_R K)) := (REnv.cons (law04_num_ok) (REnv.nil _))
noncomputable def law04_ShredMerges_s0 (K : Nat) (c1 : Addr) (m3 : Sl) (x4 : Sl) (e5 : Int) (g7 : Int) (y8 : Sl) (f9 : Int) (w10 : Sl) (want11 : Int) (w : World) : Option ((Bool × Unit) × World) :=
  (law04_num e5).bind fun r_28 =>
  if (r_28.1 != want11) = true then (some ((true, ()), w)) else ((law04_num f9).bind fun r_29 =>
  if (r_29.1 != want11) = true then (some ((true, ()), w)) else ((law04_num g7).bind fun r_30 =>
  if (r_30.1 != 0) = true then (some ((true, ()), w)) else (bnd (book_SameBytes K x4 w10 w) fun r_31 w_32 =>
  if (!r_31.1) = true then (some ((true, ()), w_32)) else (bnd (book_SameBytes K y8 w10 w_32) fun r_33 w_34 =>
  if (!r_33.1) = true then (some ((true, ()), w_34)) else ((ldS (c1.add 1) w_34).bind fun v_35 =>
  bnd (book_WholeBytes K m3 v_35 w_34) fun r_36 w_37 =>
  some (((!r_36.1), ()), w_37))))))
/-- coffer/cofferlaw04.ShredMerges -/
noncomputable def law04_ShredMerges {β : Type} (K : Nat) (c0 : Array Value) (w : World) (k : (Bool × Unit) → World → Option β) : Option β :=
  bnd (newB c0 34 w) fun p_1 w_2 =>
  (ldS (p_1.add 1) w_2).bind fun v_3 =>
  if (decide (((v_3.len : Nat) : Int) > 32768)) = true then (k (true, ()) w_2) else ((ldS (p_1.add 1) w_2).bind fun v_4 =>
  bnd (book_Bytes K v_4 w_2) fun r_5 w_6 =>
  (ldI .i64 (p_1.add 0) w_6).bind fun v_7 =>
  (ldI .i64 (p_1.add 2) w_6).bind fun v_8 =>
  shred_Merge K v_7 r_5.1 v_8 w_6 fun r_9 w_10 =>
  bnd (bldS prog 22 4 #[(0, (.int .u8 1)), (1, (.int .u8 2)), (2, (.int .u8 3)), (3, (.int .u8 4))] w_10) fun s_11 w_12 =>
  shred_Merge K 224 s_11 2 w_12 fun r_13 w_14 =>
  (ldI .i64 (p_1.add 0) w_14).bind fun v_15 =>
  (ldI .i64 (p_1.add 2) w_14).bind fun v_16 =>
  shred_Merge K v_15 r_5.1 v_16 w_14 fun r_17 w_18 =>
  (ldI .i64 (p_1.add 0) w_18).bind fun v_19 =>
  (ldS (p_1.add 1) w_18).bind fun v_20 =>
  (ldI .i64 (p_1.add 2) w_18).bind fun v_21 =>
  bnd (ref04_Merge K v_19 v_20 v_21 w_18) fun r_22 w_23 =>
  bnd (bldS prog 22 4 #[(0, (.int .u8 1)), (1, (.int .u8 2)), (2, (.int .u8 3)), (3, (.int .u8 4))] w_23) fun s_24 w_25 =>
  bnd (ref04_Merge K 224 s_24 2 w_25) fun r_26 w_27 =>
  bnd (law04_ShredMerges_s0 K p_1 r_5.1 r_9.1 r_9.2.1 r_13.2.1 r_17.1 r_17.2.1 r_22.1 r_22.2.1 w_27) fun y_38 w_39 =>
  if y_38.1 = true then (k (false, ()) w_39) else (bnd (book_SpoilBytes K r_9.1 w_39) fun r_40 w_41 =>
  bnd (book_SameBytes K r_17.1 r_22.1 w_41) fun r_42 w_43 =>
  if r_42.1 = true then (bnd (book_SameBytes K r_13.1 r_26.1 w_43) fun r_44 w_45 =>
  k (r_44.1, ()) w_45) else (k (false, ()) w_43)))
theorem law04_ShredMerges_s0_ok (K : Nat) : StmtNOk prog [(1, .addr), (3, .sl), (4, .sl), (5, .int .i64), (7, .int .i64), (8, .sl), (9, .int .i64), (10, .sl), (11, .int .i64)] [(92, .bool)] [(59, 93)] (fun x w => law04_ShredMerges_s0 K x.1 x.2.1 x.2.2.1 x.2.2.2.1 x.2.2.2.2.1 x.2.2.2.2.2.1 x.2.2.2.2.2.2.1 x.2.2.2.2.2.2.2.1 x.2.2.2.2.2.2.2.2.1 w) (cd (bodyOf f4) [1, 1, 1, 1, 1, 1, 1, 1, 0, 0]) :=
    mk_stmtN (O := tabL []) (root := (bodyOf f4)) (π := [1, 1, 1, 1, 1, 1, 1, 1, 0, 0]) (Li := [(1, .addr), (3, .sl), (4, .sl), (5, .int .i64), (7, .int .i64), (8, .sl), (9, .int .i64), (10, .sl), (11, .int .i64)]) (Lo := [(92, .bool)]) (S := (fun x w => law04_ShredMerges_s0 K x.1 x.2.1 x.2.2.1 x.2.2.2.1 x.2.2.2.2.1 x.2.2.2.2.2.1 x.2.2.2.2.2.2.1 x.2.2.2.2.2.2.2.1 x.2.2.2.2.2.2.2.2.1 w)) (law04_ShredMerges_Eok K) (law04_ShredMerges_Rok K) rfl (Orc.nil _ _ _) (by kernel_rfl) (fun _ _ => by kernel_rfl)
noncomputable def law04_ShredMerges_s0_se (K : Nat) : SE := stmtN [(1, .addr), (3, .sl), (4, .sl), (5, .int .i64), (7, .int .i64), (8, .sl), (9, .int .i64), (10, .sl), (11, .int .i64)] [(92, .bool)] [(59, 93)] (fun x w => law04_ShredMerges_s0 K x.1 x.2.1 x.2.2.1 x.2.2.2.1 x.2.2.2.2.1 x.2.2.2.2.2.1 x.2.2.2.2.2.2.1 x.2.2.2.2.2.2.2.1 x.2.2.2.2.2.2.2.2.1 w)
theorem law04_ShredMerges_s0_se_ok (K : Nat) (R : Rg) (h : subRB [(59, 93)] R = true) : (law04_ShredMerges_s0_se K).Ok prog R (cd (bodyOf f4) [1, 1, 1, 1, 1, 1, 1, 1, 0, 0]) := stmtN_ok (Li := [(1, .addr), (3, .sl), (4, .sl), (5, .int .i64), (7, .int .i64), (8, .sl), (9, .int .i64), (10, .sl), (11, .int .i64)]) (Lo := [(92, .bool)]) (S := (fun x w => law04_ShredMerges_s0 K x.1 x.2.1 x.2.2.1 x.2.2.2.1 x.2.2.2.2.1 x.2.2.2.2.2.1 x.2.2.2.2.2.2.1 x.2.2.2.2.2.2.2.1 x.2.2.2.2.2.2.2.2.1 w)) (law04_ShredMerges_s0_ok K) (subR_of h)
theorem law04_ShredMerges_facts : FunFacts prog 4 f4 (bodyOf f4) [(0, .agg)] [(0, 103)] := ⟨func4, by kernel_rfl, by kernel_rfl, by kernel_rfl, by kernel_rfl, by kernel_rfl⟩
theorem law04_ShredMerges_calls (K : Nat) {β : Type} (x : TT [(0, .agg)]) (w : World) (k : TR [.bool] → World → Option β) (r : β) (h : law04_ShredMerges K x.1 w k = some r) : Calls prog 4 (encA [(0, .agg)] x).toArray w (fun e w3 => ∃ y, e = .returned (resV (encR [.bool] y)) ∧ k y w3 = some r) :=
    mk_funC (O := tabL [([1, 1, 1, 1, 1, 1, 1, 1, 0, 0], law04_ShredMerges_s0_se K)]) (Lp := [(0, .agg)]) (Rt := [.bool]) (S := (fun x w k => law04_ShredMerges K x.1 w k)) (law04_ShredMerges_Eok K) (law04_ShredMerges_Rok K) rfl law04_ShredMerges_facts (Orc.cons (by kernel_rfl) (law04_ShredMerges_s0_se_ok K [(0, 103)] (by kernel_rfl)) (Orc.nil _ _ _)) (fun _ _ _ => by kernel_rfl) x w k r h
noncomputable def law04_ShredMerges_ce (K : Nat) : CE := funC [(0, .agg)] [.bool] (fun {_} x w k => law04_ShredMerges K x.1 w k)
theorem law04_ShredMerges_ok (K : Nat) : (law04_ShredMerges_ce K).Ok prog 4 := funC_ok (Rt := [.bool]) (S := (fun {_} x w k => law04_ShredMerges K x.1 w k)) law04_ShredMerges_facts fun x w k r h => law04_ShredMerges_calls K x w k r h

noncomputable def shred_Split_E (K : Nat) : List (Nat × CE) := [(21, digest_Size_ce), (27, shred_blender_through_ce K), (22, shred_blender_mix_ce K)]
theorem shred_Split_Eok (K : Nat) : Env.Ok prog (tab (shred_Split_E K)) := (Env.cons (digest_Size_ok) (Env.cons (shred_blender_through_ok K) (Env.cons (shred_blender_mix_ok K) (Env.nil _))))
noncomputable def shred_Split_R (K : Nat) : List (Nat × RE) := [(30, shred_Random_re)]
theorem shred_Split_Rok (K : Nat) : REnv.Ok prog (tab (shred_Split_R K)) := (REnv.cons (shred_Random_ok) (REnv.nil _))
noncomputable def shred_Split_p0 {β : Type} (K : Nat) (hash0 : Int) (secret1 : Sl) (stripes2 : Int) (random3 : Sl) (w : World) (k : Out (Sl × Sl × Int × Addr × Unit) (Sl × Int × Unit) → World → Option β) : Option β :=
  bnd (digest_Size hash0 w) fun r_1 w_2 =>
  if (r_1.1 == 0) = true then (k (.ret (⟨none, 0, 0⟩, 10, ())) w_2) else ((shred_Random ((secret1.len : Nat) : Int) stripes2).bind fun r_3 =>
  if (r_3.2.1 != 0) = true then (k (.ret (⟨none, 0, 0⟩, r_3.2.1, ())) w_2) else (if (((random3.len : Nat) : Int) != r_3.1) = true then (k (.ret (⟨none, 0, 0⟩, 41, ())) w_2) else (bnd (mkS prog 22 (.int .i64 ((secret1.len : Nat) : Int)) (.int .i64 ((secret1.len : Nat) : Int)) w_2) fun s_4 w_5 =>
  (prog.built 45 [(0, (.slice s_4.a s_4.len s_4.cap))]).bind fun cs_6 =>
  (prog.built 47 [(0, (.int .i64 hash0)), (1, (.agg cs_6))]).bind fun cs_7 =>
  bnd (newB z47 47 w_5) fun b_8 w_9 =>
  if (cs_7).size = 2 then ((stA b_8 cs_7 w_9).bind fun w_10 =>
  k (.norm (secret1, random3, r_3.1, b_8, ())) w_10) else none)))
def shred_Split_d (secret1 : Sl) (random3 : Sl) (n10 : Int) (b12 : Addr) : List Value := [(.pointer (some (b12.add 1)))]
noncomputable def shred_Split_t (K : Nat) (secret1 : Sl) (random3 : Sl) (n10 : Int) (b12 : Addr) (w : World) : Option (Unit × World) := shred_buffer_wipe (some (b12.add 1)) w
noncomputable def shred_Split_p1 {β : Type} (K : Nat) (secret1 : Sl) (random3 : Sl) (n10 : Int) (b12 : Addr) (w : World) (k : Out Unit (Sl × Int × Unit) → World → Option β) : Option β :=
  shred_blender_through K (some b12) random3 w fun r_11 w_12 =>
  bnd (shred_blender_mix K (some b12) secret1 w_12) fun r_13 w_14 =>
  bnd (mkS prog 22 (.int .i64 0) (.int .i64 (IntKind.i64.wrap (n10 + ((secret1.len : Nat) : Int)))) w_14) fun s_15 w_16 =>
  (ldS ((b12.add 1).add 0) w_16.drew).bind fun v_17 =>
  bnd (apd prog 22 22 (.slice s_15.a s_15.len s_15.cap) (.slice random3.a random3.len random3.cap) w_16.drew) fun s_18 w_19 =>
  (ldS ((b12.add 1).add 0) w_19).bind fun v_20 =>
  sameK (.slice v_17.a v_17.len v_17.cap) (.slice v_20.a v_20.len v_20.cap) (bnd (apd prog 22 22 (.slice s_18.a s_18.len s_18.cap) (.slice v_17.a v_17.len v_17.cap) w_19) fun s_21 w_22 =>
  k (.ret (s_21, 0, ())) w_22)
/-- coffer/shred.Split -/
  noncomputable def shred_Split {β : Type} (K : Nat) (hash0 : Int) (secret1 : Sl) (stripes2 : Int) (random3 : Sl) (w : World) (k : (Sl × Int × Unit) → World → Option β) : Option β :=
    shred_Split_p0 K hash0 secret1 stripes2 random3 w (deferK (fun z w k => shred_Split_p1 K z.1 z.2.1 z.2.2.1 z.2.2.2.1 w k) (fun z w => shred_Split_t K z.1 z.2.1 z.2.2.1 z.2.2.2.1 w) k)
theorem shred_Split_facts : FunFacts prog 17 f17 (bodyOf f17) [(0, .int .i64), (1, .sl), (2, .int .i64), (3, .sl)] [(0, 54)] := ⟨func17, by kernel_rfl, by kernel_rfl, by kernel_rfl, by kernel_rfl, by kernel_rfl⟩
theorem shred_Split_def (K : Nat) : DefOk prog [(1, .sl), (3, .sl), (10, .int .i64), (12, .addr)] [(37, 38)] 26 (fun x => shred_Split_d x.1 x.2.1 x.2.2.1 x.2.2.2.1) (cd (restOf 6 (bodyOf f17)) [0]) :=
    mk_def (os := (opsOf (cd (restOf 6 (bodyOf f17)) [0])).toList.take 1) (o := (opsOf (cd (restOf 6 (bodyOf f17)) [0])).getD 1 default) (ras := [.tmp 37]) (ts := #[45]) (shred_Split_Eok K) (shred_Split_Rok K) (by kernel_rfl) (by kernel_rfl) (by kernel_rfl) (by kernel_rfl) (by kernel_rfl) (fun _ _ => by kernel_rfl)
theorem shred_Split_p1_ok (K : Nat) : StmtCOOk prog [(1, .sl), (3, .sl), (10, .int .i64), (12, .addr)] [] [(8, .sl), (9, .int .i64)] [(0, 54)] (fun {_} x w k => shred_Split_p1 K x.1 x.2.1 x.2.2.1 x.2.2.2.1 w k) (cd (restOf 7 (bodyOf f17)) []) :=
    mk_stmtCO (O := tabL []) (root := (restOf 7 (bodyOf f17))) (π := []) (Li := [(1, .sl), (3, .sl), (10, .int .i64), (12, .addr)]) (Lo := []) (Lr := [(8, .sl), (9, .int .i64)]) (S := (fun {_} x w k => shred_Split_p1 K x.1 x.2.1 x.2.2.1 x.2.2.2.1 w k)) (shred_Split_Eok K) (shred_Split_Rok K) rfl (Orc.nil _ _ _) (by kernel_rfl) (fun _ _ _ => by kernel_rfl)
theorem shred_Split_calls (K : Nat) {β : Type} (x : TT [(0, .int .i64), (1, .sl), (2, .int .i64), (3, .sl)]) (w : World) (k : TR [.sl, .int .i64] → World → Option β) (r : β) (h : shred_Split K x.1 x.2.1 x.2.2.1 x.2.2.2.1 w k = some r) : Calls prog 17 (encA [(0, .int .i64), (1, .sl), (2, .int .i64), (3, .sl)] x).toArray w (fun e w3 => ∃ y, e = .returned (resV (encR [.sl, .int .i64] y)) ∧ k y w3 = some r) :=
    mk_funDefer (n := 6) (O := tabL []) (Lp := [(0, .int .i64), (1, .sl), (2, .int .i64), (3, .sl)]) (Lo := [(1, .sl), (3, .sl), (10, .int .i64), (12, .addr)]) (Lr := [(8, .sl), (9, .int .i64)]) (S1 := (fun x w k => shred_Split_p0 K x.1 x.2.1 x.2.2.1 x.2.2.2.1 w k)) (S2 := (fun {_} x w k => shred_Split_p1 K x.1 x.2.1 x.2.2.1 x.2.2.2.1 w k)) (T := (fun x w => shred_Split_t K x.1 x.2.1 x.2.2.1 x.2.2.2.1 w)) (toR := fun y => y) (shred_Split_Eok K) (shred_Split_Rok K) rfl shred_Split_facts (by kernel_rfl) (Orc.nil _ _ _) (fun _ _ _ => by kernel_rfl) (D := (cd (restOf 6 (bodyOf f17)) [0])) (B := (cd (restOf 7 (bodyOf f17)) [])) (by kernel_rfl) (shred_Split_def K) (subR_of (by kernel_rfl)) (shred_Split_p1_ok K) (subR_of (by kernel_rfl)) (fun a w => shred_buffer_wipe_facts.enter a w) (fun x w w2 h => (shred_buffer_wipe_callsD ((some (x.2.2.2.1.add 1)), ()) .returning w () w2 h).mono fun e u w3 ⟨h1, h2, h3⟩ => ⟨h1, ⟨_, h2⟩, h3⟩) (fun _ _ => by kernel_rfl) x w k r (by unfold shred_Split at h; exact h)
noncomputable def shred_Split_ce (K : Nat) : CE := funC [(0, .int .i64), (1, .sl), (2, .int .i64), (3, .sl)] [.sl, .int .i64] (fun {_} x w k => shred_Split K x.1 x.2.1 x.2.2.1 x.2.2.2.1 w k)
theorem shred_Split_ok (K : Nat) : (shred_Split_ce K).Ok prog 17 := funC_ok (Rt := [.sl, .int .i64]) (S := (fun {_} x w k => shred_Split K x.1 x.2.1 x.2.2.1 x.2.2.2.1 w k)) shred_Split_facts fun x w k r h => shred_Split_calls K x w k r h

noncomputable def law04_ShredSplits_E (K : Nat) : List (Nat × CE) := [(8, book_Bytes_ce K), (17, shred_Split_ce K), (18, ref04_Split_ce K), (12, book_SameBytes_ce K), (13, book_WholeBytes_ce K), (14, book_SpoilBytes_ce K)]
theorem law04_ShredSplits_Eok (K : Nat) : Env.Ok prog (tab (law04_ShredSplits_E K)) := (Env.cons (book_Bytes_ok K) (Env.cons (shred_Split_ok K) (Env.cons (ref04_Split_ok K) (Env.cons (book_SameBytes_ok K) (Env.cons (book_WholeBytes_ok K) (Env.cons (book_SpoilBytes_ok K) (Env.nil _)))))))
noncomputable def law04_ShredSplits_R (K : Nat) : List (Nat × RE) := [(11, law04_num_re)]
theorem law04_ShredSplits_Rok (K : Nat) : REnv.Ok prog (tab (law04_ShredSplits_R K)) := (REnv.cons (law04_num_ok) (REnv.nil _))
noncomputable def law04_ShredSplits_s0 (K : Nat) (c1 : Addr) (s3 : Sl) (r4 : Sl) (x5 : Sl) (e6 : Int) (g8 : Int) (y9 : Sl) (f10 : Int) (w11 : Sl) (want12 : Int) (w : World) : Option ((Bool × Unit) × World) :=
  (law04_num e6).bind fun r_37 =>
  if (r_37.1 != want12) = true then (some ((true, ()), w)) else ((law04_num f10).bind fun r_38 =>
  if (r_38.1 != want12) = true then (some ((true, ()), w)) else ((law04_num g8).bind fun r_39 =>
  if (r_39.1 != 0) = true then (some ((true, ()), w)) else (bnd (book_SameBytes K x5 w11 w) fun r_40 w_41 =>
  if (!r_40.1) = true then (some ((true, ()), w_41)) else (bnd (book_SameBytes K y9 w11 w_41) fun r_42 w_43 =>
  if (!r_42.1) = true then (some ((true, ()), w_43)) else ((ldS (c1.add 1) w_43).bind fun v_44 =>
  bnd (book_WholeBytes K s3 v_44 w_43) fun r_45 w_46 =>
  if (!r_45.1) = true then (some ((true, ()), w_46)) else ((ldS (c1.add 3) w_46).bind fun v_47 =>
  bnd (book_WholeBytes K r4 v_47 w_46) fun r_48 w_49 =>
  some (((!r_48.1), ()), w_49)))))))
/-- coffer/cofferlaw04.ShredSplits -/
noncomputable def law04_ShredSplits {β : Type} (K : Nat) (c0 : Array Value) (w : World) (k : (Bool × Unit) → World → Option β) : Option β :=
  bnd (newB c0 34 w) fun p_1 w_2 =>
  (ldS (p_1.add 1) w_2).bind fun v_3 =>
  (ldS (p_1.add 3) w_2).bind fun v_4 =>
  if (decide ((IntKind.i64.wrap (((v_3.len : Nat) : Int) + ((v_4.len : Nat) : Int))) > 32768)) = true then (k (true, ()) w_2) else ((ldS (p_1.add 1) w_2).bind fun v_5 =>
  bnd (book_Bytes K v_5 w_2) fun r_6 w_7 =>
  (ldS (p_1.add 3) w_7).bind fun v_8 =>
  bnd (book_Bytes K v_8 w_7) fun r_9 w_10 =>
  (ldI .i64 (p_1.add 0) w_10).bind fun v_11 =>
  (ldI .i64 (p_1.add 2) w_10).bind fun v_12 =>
  shred_Split K v_11 r_6.1 v_12 r_9.1 w_10 fun r_13 w_14 =>
  bnd (bldS prog 22 2 #[(0, (.int .u8 1)), (1, (.int .u8 2))] w_14) fun s_15 w_16 =>
  bnd (bldS prog 22 2 #[(0, (.int .u8 7)), (1, (.int .u8 7))] w_16) fun s_17 w_18 =>
  shred_Split K 512 s_15 2 s_17 w_18 fun r_19 w_20 =>
  (ldI .i64 (p_1.add 0) w_20).bind fun v_21 =>
  (ldI .i64 (p_1.add 2) w_20).bind fun v_22 =>
  shred_Split K v_21 r_6.1 v_22 r_9.1 w_20 fun r_23 w_24 =>
  (ldI .i64 (p_1.add 0) w_24).bind fun v_25 =>
  (ldS (p_1.add 1) w_24).bind fun v_26 =>
  (ldI .i64 (p_1.add 2) w_24).bind fun v_27 =>
  (ldS (p_1.add 3) w_24).bind fun v_28 =>
  bnd (ref04_Split K v_25 v_26 v_27 v_28 w_24) fun r_29 w_30 =>
  bnd (bldS prog 22 2 #[(0, (.int .u8 1)), (1, (.int .u8 2))] w_30) fun s_31 w_32 =>
  bnd (bldS prog 22 2 #[(0, (.int .u8 7)), (1, (.int .u8 7))] w_32) fun s_33 w_34 =>
  bnd (ref04_Split K 512 s_31 2 s_33 w_34) fun r_35 w_36 =>
  bnd (law04_ShredSplits_s0 K p_1 r_6.1 r_9.1 r_13.1 r_13.2.1 r_19.2.1 r_23.1 r_23.2.1 r_29.1 r_29.2.1 w_36) fun y_50 w_51 =>
  if y_50.1 = true then (k (false, ()) w_51) else (bnd (book_SpoilBytes K r_13.1 w_51) fun r_52 w_53 =>
  bnd (book_SameBytes K r_23.1 r_29.1 w_53) fun r_54 w_55 =>
  if r_54.1 = true then (bnd (book_SameBytes K r_19.1 r_35.1 w_55) fun r_56 w_57 =>
  k (r_56.1, ()) w_57) else (k (false, ()) w_55)))
theorem law04_ShredSplits_s0_ok (K : Nat) : StmtNOk prog [(1, .addr), (3, .sl), (4, .sl), (5, .sl), (6, .int .i64), (8, .int .i64), (9, .sl), (10, .int .i64), (11, .sl), (12, .int .i64)] [(113, .bool)] [(73, 114)] (fun x w => law04_ShredSplits_s0 K x.1 x.2.1 x.2.2.1 x.2.2.2.1 x.2.2.2.2.1 x.2.2.2.2.2.1 x.2.2.2.2.2.2.1 x.2.2.2.2.2.2.2.1 x.2.2.2.2.2.2.2.2.1 x.2.2.2.2.2.2.2.2.2.1 w) (cd (bodyOf f5) [1, 1, 1, 1, 1, 1, 1, 1, 1, 0, 0]) :=
    mk_stmtN (O := tabL []) (root := (bodyOf f5)) (π := [1, 1, 1, 1, 1, 1, 1, 1, 1, 0, 0]) (Li := [(1, .addr), (3, .sl), (4, .sl), (5, .sl), (6, .int .i64), (8, .int .i64), (9, .sl), (10, .int .i64), (11, .sl), (12, .int .i64)]) (Lo := [(113, .bool)]) (S := (fun x w => law04_ShredSplits_s0 K x.1 x.2.1 x.2.2.1 x.2.2.2.1 x.2.2.2.2.1 x.2.2.2.2.2.1 x.2.2.2.2.2.2.1 x.2.2.2.2.2.2.2.1 x.2.2.2.2.2.2.2.2.1 x.2.2.2.2.2.2.2.2.2.1 w)) (law04_ShredSplits_Eok K) (law04_ShredSplits_Rok K) rfl (Orc.nil _ _ _) (by kernel_rfl) (fun _ _ => by kernel_rfl)
noncomputable def law04_ShredSplits_s0_se (K : Nat) : SE := stmtN [(1, .addr), (3, .sl), (4, .sl), (5, .sl), (6, .int .i64), (8, .int .i64), (9, .sl), (10, .int .i64), (11, .sl), (12, .int .i64)] [(113, .bool)] [(73, 114)] (fun x w => law04_ShredSplits_s0 K x.1 x.2.1 x.2.2.1 x.2.2.2.1 x.2.2.2.2.1 x.2.2.2.2.2.1 x.2.2.2.2.2.2.1 x.2.2.2.2.2.2.2.1 x.2.2.2.2.2.2.2.2.1 x.2.2.2.2.2.2.2.2.2.1 w)
theorem law04_ShredSplits_s0_se_ok (K : Nat) (R : Rg) (h : subRB [(73, 114)] R = true) : (law04_ShredSplits_s0_se K).Ok prog R (cd (bodyOf f5) [1, 1, 1, 1, 1, 1, 1, 1, 1, 0, 0]) := stmtN_ok (Li := [(1, .addr), (3, .sl), (4, .sl), (5, .sl), (6, .int .i64), (8, .int .i64), (9, .sl), (10, .int .i64), (11, .sl), (12, .int .i64)]) (Lo := [(113, .bool)]) (S := (fun x w => law04_ShredSplits_s0 K x.1 x.2.1 x.2.2.1 x.2.2.2.1 x.2.2.2.2.1 x.2.2.2.2.2.1 x.2.2.2.2.2.2.1 x.2.2.2.2.2.2.2.1 x.2.2.2.2.2.2.2.2.1 x.2.2.2.2.2.2.2.2.2.1 w)) (law04_ShredSplits_s0_ok K) (subR_of h)
theorem law04_ShredSplits_facts : FunFacts prog 5 f5 (bodyOf f5) [(0, .agg)] [(0, 124)] := ⟨func5, by kernel_rfl, by kernel_rfl, by kernel_rfl, by kernel_rfl, by kernel_rfl⟩
theorem law04_ShredSplits_calls (K : Nat) {β : Type} (x : TT [(0, .agg)]) (w : World) (k : TR [.bool] → World → Option β) (r : β) (h : law04_ShredSplits K x.1 w k = some r) : Calls prog 5 (encA [(0, .agg)] x).toArray w (fun e w3 => ∃ y, e = .returned (resV (encR [.bool] y)) ∧ k y w3 = some r) :=
    mk_funC (O := tabL [([1, 1, 1, 1, 1, 1, 1, 1, 1, 0, 0], law04_ShredSplits_s0_se K)]) (Lp := [(0, .agg)]) (Rt := [.bool]) (S := (fun x w k => law04_ShredSplits K x.1 w k)) (law04_ShredSplits_Eok K) (law04_ShredSplits_Rok K) rfl law04_ShredSplits_facts (Orc.cons (by kernel_rfl) (law04_ShredSplits_s0_se_ok K [(0, 124)] (by kernel_rfl)) (Orc.nil _ _ _)) (fun _ _ _ => by kernel_rfl) x w k r h
noncomputable def law04_ShredSplits_ce (K : Nat) : CE := funC [(0, .agg)] [.bool] (fun {_} x w k => law04_ShredSplits K x.1 w k)
theorem law04_ShredSplits_ok (K : Nat) : (law04_ShredSplits_ce K).Ok prog 5 := funC_ok (Rt := [.bool]) (S := (fun {_} x w k => law04_ShredSplits K x.1 w k)) law04_ShredSplits_facts fun x w k r h => law04_ShredSplits_calls K x w k r h

noncomputable def law04_ShredBack_E (K : Nat) : List (Nat × CE) := [(20, law04_filled_ce K), (17, shred_Split_ce K), (12, book_SameBytes_ce K), (15, shred_Merge_ce K)]
theorem law04_ShredBack_Eok (K : Nat) : Env.Ok prog (tab (law04_ShredBack_E K)) := (Env.cons (law04_filled_ok K) (Env.cons (shred_Split_ok K) (Env.cons (book_SameBytes_ok K) (Env.cons (shred_Merge_ok K) (Env.nil _)))))
noncomputable def law04_ShredBack_R (K : Nat) : List (Nat × RE) := [(19, law04_known_re), (11, law04_num_re)]
theorem law04_ShredBack_Rok (K : Nat) : REnv.Ok prog (tab (law04_ShredBack_R K)) := (REnv.cons (law04_known_ok) (REnv.cons (law04_num_ok) (REnv.nil _)))
noncomputable def law04_ShredBack_s0 (K : Nat) (c2 : Addr) (n5 : Int) (w : World) : Option ((Bool × Unit) × World) :=
  (ldI .i64 (c2.add 0) w).bind fun v_4 =>
  (law04_known v_4).bind fun r_5 =>
  if (!r_5.1) = true then (some ((true, ()), w)) else (if (decide (n5 < 1)) = true then (some ((true, ()), w)) else (if (decide (n5 > 1024)) = true then (some ((true, ()), w)) else ((ldI .i64 (c2.add 2) w).bind fun v_6 =>
  if (decide (v_6 < 1)) = true then (some ((true, ()), w)) else ((ldI .i64 (c2.add 2) w).bind fun v_7 =>
  if (decide (v_7 > 4000)) = true then (some ((true, ()), w)) else ((ldI .i64 (c2.add 2) w).bind fun v_8 =>
  some (((decide ((IntKind.i64.wrap (n5 * v_8)) > 32768)), ()), w))))))
noncomputable def law04_ShredBack_s1 (K : Nat) (c2 : Addr) (n5 : Int) (random6 : Sl) (m7 : Sl) (e8 : Int) (w : World) : Option ((Bool × Unit) × World) :=
  (law04_num e8).bind fun r_20 =>
  if (r_20.1 != 0) = true then (some ((true, ()), w)) else ((ldI .i64 (c2.add 2) w).bind fun v_21 =>
  if (((m7.len : Nat) : Int) != (IntKind.i64.wrap (n5 * v_21))) = true then (some ((true, ()), w)) else (if (0 : Int) ≤ ((random6.len : Nat) : Int) ∧ ((random6.len : Nat) : Int) ≤ ((m7.cap : Nat) : Int) then (bnd (book_SameBytes K ⟨(sla m7.a 0 m7.cap 1), ((Int.toNat (((random6.len : Nat) : Int))) - 0), (m7.cap - 0)⟩ random6 w) fun r_22 w_23 =>
  some (((!r_22.1), ()), w_23)) else none))
noncomputable def law04_ShredBack_s2 (K : Nat) (c2 : Addr) (e8 : Int) (s9 : Sl) (w : World) : Option ((Bool × Unit) × World) :=
  (law04_num e8).bind fun r_30 =>
  if (r_30.1 != 0) = true then (some ((true, ()), w)) else ((ldS (c2.add 1) w).bind fun v_31 =>
  bnd (book_SameBytes K s9 v_31 w) fun r_32 w_33 =>
  some (((!r_32.1), ()), w_33))
noncomputable def law04_ShredBack_l3_b (K : Nat) (rec : Addr → Int → Sl → Sl → Sl → Int → World → Option ((Unit) × World)) (c2 : Addr) (n5 : Int) (random6 : Sl) (m7 : Sl) (x10 : Sl) (i11 : Int) (w : World) : Option ((Unit) × World) :=
  if (decide (i11 < n5)) = true then ((m7.a).bind fun p_38 =>
  if (0 : Int) ≤ (IntKind.i64.wrap (((random6.len : Nat) : Int) + i11)) ∧ (IntKind.i64.wrap (((random6.len : Nat) : Int) + i11)) < ((m7.len : Nat) : Int) then ((x10.a).bind fun p_39 =>
  if (0 : Int) ≤ i11 ∧ i11 < ((x10.len : Nat) : Int) then ((ldI .u8 (p_38.add ((Int.toNat (IntKind.i64.wrap (((random6.len : Nat) : Int) + i11))) * 1)) w.drew).bind fun v_40 =>
  (ldI .u8 (p_39.add ((Int.toNat i11) * 1)) w.drew).bind fun v_41 =>
  (m7.a).bind fun p_42 =>
  if (0 : Int) ≤ (IntKind.i64.wrap (((random6.len : Nat) : Int) + i11)) ∧ (IntKind.i64.wrap (((random6.len : Nat) : Int) + i11)) < ((m7.len : Nat) : Int) then ((stC (p_42.add ((Int.toNat (IntKind.i64.wrap (((random6.len : Nat) : Int) + i11))) * 1)) (.int .u8 (bits .xor .u8 v_40 v_41)) w.drew).bind fun w_43 =>
  rec c2 n5 random6 m7 x10 (IntKind.i64.wrap (i11 + 1)) w_43) else none) else none) else none) else (some ((), w))
noncomputable def law04_ShredBack_l3 (K : Nat) (n : Nat) : Addr → Int → Sl → Sl → Sl → Int → World → Option ((Unit) × World) := iter (fun _ _ _ _ _ _ _ => none) (law04_ShredBack_l3_b K) n
noncomputable def law04_ShredBack_s4 (K : Nat) (n5 : Int) (e8 : Int) (t12 : Sl) (w : World) : Option ((Bool × Unit) × World) :=
  (law04_num e8).bind fun r_50 =>
  if (r_50.1 != 0) = true then (some ((true, ()), w)) else (some (((((t12.len : Nat) : Int) != n5), ()), w))
noncomputable def law04_ShredBack_l5_b (K : Nat) (rec : Addr → Int → Sl → Sl → Sl → Sl → Int → World → Option ((Out (Unit) (Bool × Unit)) × World)) (c2 : Addr) (n5 : Int) (random6 : Sl) (m7 : Sl) (x10 : Sl) (t12 : Sl) (i13 : Int) (w : World) : Option ((Out (Unit) (Bool × Unit)) × World) :=
  if (decide (i13 < n5)) = true then ((t12.a).bind fun p_53 =>
  if (0 : Int) ≤ i13 ∧ i13 < ((t12.len : Nat) : Int) then ((x10.a).bind fun p_54 =>
  if (0 : Int) ≤ i13 ∧ i13 < ((x10.len : Nat) : Int) then ((ldI .u8 (p_53.add ((Int.toNat i13) * 1)) w.drew).bind fun v_55 =>
  (ldS (c2.add 1) w.drew).bind fun v_56 =>
  (v_56.a).bind fun p_57 =>
  if (0 : Int) ≤ i13 ∧ i13 < ((v_56.len : Nat) : Int) then ((ldI .u8 (p_57.add ((Int.toNat i13) * 1)) w.drew).bind fun v_58 =>
  (ldI .u8 (p_54.add ((Int.toNat i13) * 1)) w.drew).bind fun v_59 =>
  if (v_55 != (bits .xor .u8 v_58 v_59)) = true then (some (.ret (false, ()), w.drew)) else (rec c2 n5 random6 m7 x10 t12 (IntKind.i64.wrap (i13 + 1)) w.drew)) else none) else none) else none) else (some (.norm (), w))
noncomputable def law04_ShredBack_l5 (K : Nat) (n : Nat) : Addr → Int → Sl → Sl → Sl → Sl → Int → World → Option ((Out (Unit) (Bool × Unit)) × World) := iter (fun _ _ _ _ _ _ _ _ => none) (law04_ShredBack_l5_b K) n
/-- coffer/cofferlaw04.ShredBack -/
noncomputable def law04_ShredBack {β : Type} (K : Nat) (c0 : Array Value) (mask1 : Sl) (w : World) (k : (Bool × Unit) → World → Option β) : Option β :=
  bnd (newB c0 34 w) fun p_1 w_2 =>
  (ldS (p_1.add 1) w_2).bind fun v_3 =>
  bnd (law04_ShredBack_s0 K p_1 ((v_3.len : Nat) : Int) w_2) fun y_9 w_10 =>
  if y_9.1 = true then (k (true, ()) w_10) else ((ldI .i64 (p_1.add 2) w_10).bind fun v_11 =>
  (ldS (p_1.add 3) w_10).bind fun v_12 =>
  bnd (law04_filled K (IntKind.i64.wrap (((v_3.len : Nat) : Int) * (IntKind.i64.wrap (v_11 - 1)))) v_12 w_10) fun r_13 w_14 =>
  (ldI .i64 (p_1.add 0) w_14).bind fun v_15 =>
  (ldS (p_1.add 1) w_14).bind fun v_16 =>
  (ldI .i64 (p_1.add 2) w_14).bind fun v_17 =>
  shred_Split K v_15 v_16 v_17 r_13.1 w_14 fun r_18 w_19 =>
  bnd (law04_ShredBack_s1 K p_1 ((v_3.len : Nat) : Int) r_13.1 r_18.1 r_18.2.1 w_19) fun y_24 w_25 =>
  if y_24.1 = true then (k (false, ()) w_25) else ((ldI .i64 (p_1.add 0) w_25).bind fun v_26 =>
  (ldI .i64 (p_1.add 2) w_25).bind fun v_27 =>
  shred_Merge K v_26 r_18.1 v_27 w_25 fun r_28 w_29 =>
  bnd (law04_ShredBack_s2 K p_1 r_28.2.1 r_28.1 w_29) fun y_34 w_35 =>
  if y_34.1 = true then (k (false, ()) w_35) else (bnd (law04_filled K ((v_3.len : Nat) : Int) mask1 w_35) fun r_36 w_37 =>
  bnd (law04_ShredBack_l3 K K p_1 ((v_3.len : Nat) : Int) r_13.1 r_18.1 r_36.1 0 w_37) fun y_44 w_45 =>
  (ldI .i64 (p_1.add 0) w_45).bind fun v_46 =>
  (ldI .i64 (p_1.add 2) w_45).bind fun v_47 =>
  shred_Merge K v_46 r_18.1 v_47 w_45 fun r_48 w_49 =>
  bnd (law04_ShredBack_s4 K ((v_3.len : Nat) : Int) r_48.2.1 r_48.1 w_49) fun y_51 w_52 =>
  if y_51.1 = true then (k (false, ()) w_52) else (bnd (law04_ShredBack_l5 K K p_1 ((v_3.len : Nat) : Int) r_13.1 r_18.1 r_36.1 r_48.1 0 w_52) fun y_60 w_61 =>
  (match y_60 with
  | .norm z_62n => ((ldI .i64 (p_1.add 0) w_61).bind fun v_63 =>
  (ldI .i64 (p_1.add 2) w_61).bind fun v_64 =>
  shred_Split K v_63 r_48.1 v_64 r_13.1 w_61 fun r_65 w_66 =>
  (law04_num r_65.2.1).bind fun r_67 =>
  if (r_67.1 == 0) = true then (bnd (book_SameBytes K r_65.1 r_18.1 w_66) fun r_68 w_69 =>
  k (r_68.1, ()) w_69) else (k (false, ()) w_66))
  | .ret z_62r => (k (z_62r.1, ()) w_61))))))
theorem law04_ShredBack_s0_ok (K : Nat) : StmtNOk prog [(2, .addr), (5, .int .i64)] [(46, .bool)] [(18, 47)] (fun x w => law04_ShredBack_s0 K x.1 x.2.1 w) (cd (bodyOf f6) [1, 1, 0, 0]) :=
    mk_stmtN (O := tabL []) (root := (bodyOf f6)) (π := [1, 1, 0, 0]) (Li := [(2, .addr), (5, .int .i64)]) (Lo := [(46, .bool)]) (S := (fun x w => law04_ShredBack_s0 K x.1 x.2.1 w)) (law04_ShredBack_Eok K) (law04_ShredBack_Rok K) rfl (Orc.nil _ _ _) (by kernel_rfl) (fun _ _ => by kernel_rfl)
noncomputable def law04_ShredBack_s0_se (K : Nat) : SE := stmtN [(2, .addr), (5, .int .i64)] [(46, .bool)] [(18, 47)] (fun x w => law04_ShredBack_s0 K x.1 x.2.1 w)
theorem law04_ShredBack_s0_se_ok (K : Nat) (R : Rg) (h : subRB [(18, 47)] R = true) : (law04_ShredBack_s0_se K).Ok prog R (cd (bodyOf f6) [1, 1, 0, 0]) := stmtN_ok (Li := [(2, .addr), (5, .int .i64)]) (Lo := [(46, .bool)]) (S := (fun x w => law04_ShredBack_s0 K x.1 x.2.1 w)) (law04_ShredBack_s0_ok K) (subR_of h)
theorem law04_ShredBack_s1_ok (K : Nat) : StmtNOk prog [(2, .addr), (5, .int .i64), (6, .sl), (7, .sl), (8, .int .i64)] [(86, .bool)] [(66, 87)] (fun x w => law04_ShredBack_s1 K x.1 x.2.1 x.2.2.1 x.2.2.2.1 x.2.2.2.2.1 w) (cd (bodyOf f6) [1, 1, 1, 1, 1, 0, 0]) :=
    mk_stmtN (O := tabL []) (root := (bodyOf f6)) (π := [1, 1, 1, 1, 1, 0, 0]) (Li := [(2, .addr), (5, .int .i64), (6, .sl), (7, .sl), (8, .int .i64)]) (Lo := [(86, .bool)]) (S := (fun x w => law04_ShredBack_s1 K x.1 x.2.1 x.2.2.1 x.2.2.2.1 x.2.2.2.2.1 w)) (law04_ShredBack_Eok K) (law04_ShredBack_Rok K) rfl (Orc.nil _ _ _) (by kernel_rfl) (fun _ _ => by kernel_rfl)
noncomputable def law04_ShredBack_s1_se (K : Nat) : SE := stmtN [(2, .addr), (5, .int .i64), (6, .sl), (7, .sl), (8, .int .i64)] [(86, .bool)] [(66, 87)] (fun x w => law04_ShredBack_s1 K x.1 x.2.1 x.2.2.1 x.2.2.2.1 x.2.2.2.2.1 w)
theorem law04_ShredBack_s1_se_ok (K : Nat) (R : Rg) (h : subRB [(66, 87)] R = true) : (law04_ShredBack_s1_se K).Ok prog R (cd (bodyOf f6) [1, 1, 1, 1, 1, 0, 0]) := stmtN_ok (Li := [(2, .addr), (5, .int .i64), (6, .sl), (7, .sl), (8, .int .i64)]) (Lo := [(86, .bool)]) (S := (fun x w => law04_ShredBack_s1 K x.1 x.2.1 x.2.2.1 x.2.2.2.1 x.2.2.2.2.1 w)) (law04_ShredBack_s1_ok K) (subR_of h)
theorem law04_ShredBack_s2_ok (K : Nat) : StmtNOk prog [(2, .addr), (8, .int .i64), (9, .sl)] [(105, .bool)] [(96, 106)] (fun x w => law04_ShredBack_s2 K x.1 x.2.1 x.2.2.1 w) (cd (bodyOf f6) [1, 1, 1, 1, 1, 1, 1, 0, 0]) :=
    mk_stmtN (O := tabL []) (root := (bodyOf f6)) (π := [1, 1, 1, 1, 1, 1, 1, 0, 0]) (Li := [(2, .addr), (8, .int .i64), (9, .sl)]) (Lo := [(105, .bool)]) (S := (fun x w => law04_ShredBack_s2 K x.1 x.2.1 x.2.2.1 w)) (law04_ShredBack_Eok K) (law04_ShredBack_Rok K) rfl (Orc.nil _ _ _) (by kernel_rfl) (fun _ _ => by kernel_rfl)
noncomputable def law04_ShredBack_s2_se (K : Nat) : SE := stmtN [(2, .addr), (8, .int .i64), (9, .sl)] [(105, .bool)] [(96, 106)] (fun x w => law04_ShredBack_s2 K x.1 x.2.1 x.2.2.1 w)
theorem law04_ShredBack_s2_se_ok (K : Nat) (R : Rg) (h : subRB [(96, 106)] R = true) : (law04_ShredBack_s2_se K).Ok prog R (cd (bodyOf f6) [1, 1, 1, 1, 1, 1, 1, 0, 0]) := stmtN_ok (Li := [(2, .addr), (8, .int .i64), (9, .sl)]) (Lo := [(105, .bool)]) (S := (fun x w => law04_ShredBack_s2 K x.1 x.2.1 x.2.2.1 w)) (law04_ShredBack_s2_ok K) (subR_of h)
theorem law04_ShredBack_l3_ok (K : Nat) (n : Nat) : StmtNOk prog [(2, .addr), (5, .int .i64), (6, .sl), (7, .sl), (10, .sl), (11, .int .i64)] [] [(11, 12), (109, 132)] ((fun n x w => law04_ShredBack_l3 K n x.1 x.2.1 x.2.2.1 x.2.2.2.1 x.2.2.2.2.1 x.2.2.2.2.2.1 w) n) (.block 0 (.loop (cd (bodyOf f6) [1, 1, 1, 1, 1, 1, 1, 1, 1, 0, 1, 0, 0]))) :=
    mk_loopN (O := tabL []) (root := (bodyOf f6)) (π := [1, 1, 1, 1, 1, 1, 1, 1, 1, 0, 1, 0, 0]) (id := 0) (Li := [(2, .addr), (5, .int .i64), (6, .sl), (7, .sl), (10, .sl), (11, .int .i64)]) (Lo := []) (S := (fun n x w => law04_ShredBack_l3 K n x.1 x.2.1 x.2.2.1 x.2.2.2.1 x.2.2.2.2.1 x.2.2.2.2.2.1 w)) (body := cd (bodyOf f6) [1, 1, 1, 1, 1, 1, 1, 1, 1, 0, 1, 0, 0]) (law04_ShredBack_Eok K) (law04_ShredBack_Rok K) rfl (Orc.nil _ _ _) (by kernel_rfl) (fun _ _ => by kernel_rfl) (fun _ _ _ => by kernel_rfl) n
noncomputable def law04_ShredBack_l3_se (K : Nat) : SE := stmtN [(2, .addr), (5, .int .i64), (6, .sl), (7, .sl), (10, .sl), (11, .int .i64)] [] [(11, 12), (109, 132)] (fun x w => law04_ShredBack_l3 K K x.1 x.2.1 x.2.2.1 x.2.2.2.1 x.2.2.2.2.1 x.2.2.2.2.2.1 w)
theorem law04_ShredBack_l3_se_ok (K : Nat) (R : Rg) (h : subRB [(11, 12), (109, 132)] R = true) : (law04_ShredBack_l3_se K).Ok prog R (.block 0 (.loop (cd (bodyOf f6) [1, 1, 1, 1, 1, 1, 1, 1, 1, 0, 1, 0, 0]))) := stmtN_ok (Li := [(2, .addr), (5, .int .i64), (6, .sl), (7, .sl), (10, .sl), (11, .int .i64)]) (Lo := []) (S := (fun x w => law04_ShredBack_l3 K K x.1 x.2.1 x.2.2.1 x.2.2.2.1 x.2.2.2.2.1 x.2.2.2.2.2.1 w)) (law04_ShredBack_l3_ok K K) (subR_of h)
theorem law04_ShredBack_s4_ok (K : Nat) : StmtNOk prog [(5, .int .i64), (8, .int .i64), (12, .sl)] [(149, .bool)] [(141, 150)] (fun x w => law04_ShredBack_s4 K x.1 x.2.1 x.2.2.1 w) (cd (bodyOf f6) [1, 1, 1, 1, 1, 1, 1, 1, 1, 1, 1, 0, 0]) :=
    mk_stmtN (O := tabL []) (root := (bodyOf f6)) (π := [1, 1, 1, 1, 1, 1, 1, 1, 1, 1, 1, 0, 0]) (Li := [(5, .int .i64), (8, .int .i64), (12, .sl)]) (Lo := [(149, .bool)]) (S := (fun x w => law04_ShredBack_s4 K x.1 x.2.1 x.2.2.1 w)) (law04_ShredBack_Eok K) (law04_ShredBack_Rok K) rfl (Orc.nil _ _ _) (by kernel_rfl) (fun _ _ => by kernel_rfl)
noncomputable def law04_ShredBack_s4_se (K : Nat) : SE := stmtN [(5, .int .i64), (8, .int .i64), (12, .sl)] [(149, .bool)] [(141, 150)] (fun x w => law04_ShredBack_s4 K x.1 x.2.1 x.2.2.1 w)
theorem law04_ShredBack_s4_se_ok (K : Nat) (R : Rg) (h : subRB [(141, 150)] R = true) : (law04_ShredBack_s4_se K).Ok prog R (cd (bodyOf f6) [1, 1, 1, 1, 1, 1, 1, 1, 1, 1, 1, 0, 0]) := stmtN_ok (Li := [(5, .int .i64), (8, .int .i64), (12, .sl)]) (Lo := [(149, .bool)]) (S := (fun x w => law04_ShredBack_s4 K x.1 x.2.1 x.2.2.1 w)) (law04_ShredBack_s4_ok K) (subR_of h)
theorem law04_ShredBack_l5_ok (K : Nat) (n : Nat) : StmtOk prog [(2, .addr), (5, .int .i64), (6, .sl), (7, .sl), (10, .sl), (12, .sl), (13, .int .i64)] [] [(4, .bool)] [(4, 5), (13, 14), (150, 170)] ((fun n x w => law04_ShredBack_l5 K n x.1 x.2.1 x.2.2.1 x.2.2.2.1 x.2.2.2.2.1 x.2.2.2.2.2.1 x.2.2.2.2.2.2.1 w) n) (.block 2 (.loop (cd (bodyOf f6) [1, 1, 1, 1, 1, 1, 1, 1, 1, 1, 1, 1, 0, 1, 0, 0]))) :=
    mk_loop (O := tabL []) (root := (bodyOf f6)) (π := [1, 1, 1, 1, 1, 1, 1, 1, 1, 1, 1, 1, 0, 1, 0, 0]) (id := 2) (Li := [(2, .addr), (5, .int .i64), (6, .sl), (7, .sl), (10, .sl), (12, .sl), (13, .int .i64)]) (Lo := []) (Lr := [(4, .bool)]) (S := (fun n x w => law04_ShredBack_l5 K n x.1 x.2.1 x.2.2.1 x.2.2.2.1 x.2.2.2.2.1 x.2.2.2.2.2.1 x.2.2.2.2.2.2.1 w)) (body := cd (bodyOf f6) [1, 1, 1, 1, 1, 1, 1, 1, 1, 1, 1, 1, 0, 1, 0, 0]) (law04_ShredBack_Eok K) (law04_ShredBack_Rok K) rfl (Orc.nil _ _ _) (by kernel_rfl) (fun _ _ => by kernel_rfl) (fun _ _ _ => by kernel_rfl) n
noncomputable def law04_ShredBack_l5_se (K : Nat) : SE := stmt [(2, .addr), (5, .int .i64), (6, .sl), (7, .sl), (10, .sl), (12, .sl), (13, .int .i64)] [] [(4, .bool)] [(4, 5), (13, 14), (150, 170)] (fun x w => law04_ShredBack_l5 K K x.1 x.2.1 x.2.2.1 x.2.2.2.1 x.2.2.2.2.1 x.2.2.2.2.2.1 x.2.2.2.2.2.2.1 w)
theorem law04_ShredBack_l5_se_ok (K : Nat) (R : Rg) (h : subRB [(4, 5), (13, 14), (150, 170)] R = true) : (law04_ShredBack_l5_se K).Ok prog R (.block 2 (.loop (cd (bodyOf f6) [1, 1, 1, 1, 1, 1, 1, 1, 1, 1, 1, 1, 0, 1, 0, 0]))) := stmt_ok (Li := [(2, .addr), (5, .int .i64), (6, .sl), (7, .sl), (10, .sl), (12, .sl), (13, .int .i64)]) (Lo := []) (Lr := [(4, .bool)]) (S := (fun x w => law04_ShredBack_l5 K K x.1 x.2.1 x.2.2.1 x.2.2.2.1 x.2.2.2.2.1 x.2.2.2.2.2.1 x.2.2.2.2.2.2.1 w)) (law04_ShredBack_l5_ok K K) (subR_of h)
theorem law04_ShredBack_facts : FunFacts prog 6 f6 (bodyOf f6) [(0, .agg), (1, .sl)] [(0, 188)] := ⟨func6, by kernel_rfl, by kernel_rfl, by kernel_rfl, by kernel_rfl, by kernel_rfl⟩
theorem law04_ShredBack_calls (K : Nat) {β : Type} (x : TT [(0, .agg), (1, .sl)]) (w : World) (k : TR [.bool] → World → Option β) (r : β) (h : law04_ShredBack K x.1 x.2.1 w k = some r) : Calls prog 6 (encA [(0, .agg), (1, .sl)] x).toArray w (fun e w3 => ∃ y, e = .returned (resV (encR [.bool] y)) ∧ k y w3 = some r) :=
    mk_funC (O := tabL [([1, 1, 0, 0], law04_ShredBack_s0_se K), ([1, 1, 1, 1, 1, 0, 0], law04_ShredBack_s1_se K), ([1, 1, 1, 1, 1, 1, 1, 0, 0], law04_ShredBack_s2_se K), ([1, 1, 1, 1, 1, 1, 1, 1, 1, 0, 1], law04_ShredBack_l3_se K), ([1, 1, 1, 1, 1, 1, 1, 1, 1, 1, 1, 0, 0], law04_ShredBack_s4_se K), ([1, 1, 1, 1, 1, 1, 1, 1, 1, 1, 1, 1, 0, 1], law04_ShredBack_l5_se K)]) (Lp := [(0, .agg), (1, .sl)]) (Rt := [.bool]) (S := (fun x w k => law04_ShredBack K x.1 x.2.1 w k)) (law04_ShredBack_Eok K) (law04_ShredBack_Rok K) rfl law04_ShredBack_facts (Orc.cons (by kernel_rfl) (law04_ShredBack_s0_se_ok K [(0, 188)] (by kernel_rfl)) (Orc.cons (by kernel_rfl) (law04_ShredBack_s1_se_ok K [(0, 188)] (by kernel_rfl)) (Orc.cons (by kernel_rfl) (law04_ShredBack_s2_se_ok K [(0, 188)] (by kernel_rfl)) (Orc.cons (by kernel_rfl) (law04_ShredBack_l3_se_ok K [(0, 188)] (by kernel_rfl)) (Orc.cons (by kernel_rfl) (law04_ShredBack_s4_se_ok K [(0, 188)] (by kernel_rfl)) (Orc.cons (by kernel_rfl) (law04_ShredBack_l5_se_ok K [(0, 188)] (by kernel_rfl)) (Orc.nil _ _ _))))))) (fun _ _ _ => by kernel_rfl) x w k r h
noncomputable def law04_ShredBack_ce (K : Nat) : CE := funC [(0, .agg), (1, .sl)] [.bool] (fun {_} x w k => law04_ShredBack K x.1 x.2.1 w k)
theorem law04_ShredBack_ok (K : Nat) : (law04_ShredBack_ce K).Ok prog 6 := funC_ok (Rt := [.bool]) (S := (fun {_} x w k => law04_ShredBack K x.1 x.2.1 w k)) law04_ShredBack_facts fun x w k r h => law04_ShredBack_calls K x w k r h

end Go.Sh

/- What functions of the program do, as Lean functions; that the machine does just that. Printed by shal.py, a program of this claim's writer. -/
set_option maxRecDepth 100000
set_option linter.unusedVariables false
namespace Go.Sh
open Go.Fw Go.Proofs.Tryd

noncomputable def law04_ShredOne_E (K : Nat) : List (Nat × CE) := [(17, shred_Split_ce K), (15, shred_Merge_ce K), (12, book_SameBytes_ce K)]
theorem law04_ShredOne_Eok (K : Nat) : Env.Ok prog (tab (law04_ShredOne_E K)) := (Env.cons (shred_Split_ok K) (Env.cons (shred_Merge_ok K) (Env.cons (book_SameBytes_ok K) (Env.nil _))))
noncomputable def law04_ShredOne_R (K : Nat) : List (Nat × RE) := [(19, law04_known_re), (11, law04_num_re)]
theorem law04_ShredOne_Rok (K : Nat) : REnv.Ok prog (tab (law04_ShredOne_R K)) := (REnv.cons (law04_known_ok) (REnv.cons (law04_num_ok) (REnv.nil _)))
noncomputable def law04_ShredOne_s0 (K : Nat) (hash0 : Int) (secret1 : Sl) (w : World) : Option ((Bool × Unit) × World) :=
  (law04_known hash0).bind fun r_1 =>
  if (!r_1.1) = true then (some ((true, ()), w)) else (if (decide (((secret1.len : Nat) : Int) < 1)) = true then (some ((true, ()), w)) else (some (((decide (((secret1.len : Nat) : Int) > 1024)), ()), w)))
/-- coffer/cofferlaw04.ShredOne -/
noncomputable def law04_ShredOne {β : Type} (K : Nat) (hash0 : Int) (secret1 : Sl) (w : World) (k : (Bool × Unit) → World → Option β) : Option β :=
  bnd (law04_ShredOne_s0 K hash0 secret1 w) fun y_2 w_3 =>
  if y_2.1 = true then (k (true, ()) w_3) else (shred_Split K hash0 secret1 1 ⟨none, 0, 0⟩ w_3 fun r_4 w_5 =>
  shred_Merge K hash0 secret1 1 w_5 fun r_6 w_7 =>
  (law04_num r_4.2.1).bind fun r_8 =>
  if (r_8.1 == 0) = true then ((law04_num r_6.2.1).bind fun r_9 =>
  if (r_9.1 == 0) = true then (bnd (book_SameBytes K r_4.1 secret1 w_7) fun r_10 w_11 =>
  if r_10.1 = true then (bnd (book_SameBytes K r_6.1 secret1 w_11) fun r_12 w_13 =>
  k (r_12.1, ()) w_13) else (k (false, ()) w_11)) else (k (false, ()) w_7)) else (k (false, ()) w_7))
theorem law04_ShredOne_s0_ok (K : Nat) : StmtNOk prog [(0, .int .i64), (1, .sl)] [(21, .bool)] [(9, 22)] (fun x w => law04_ShredOne_s0 K x.1 x.2.1 w) (cd (bodyOf f7) [1, 0, 0]) :=
    mk_stmtN (O := tabL []) (root := (bodyOf f7)) (π := [1, 0, 0]) (Li := [(0, .int .i64), (1, .sl)]) (Lo := [(21, .bool)]) (S := (fun x w => law04_ShredOne_s0 K x.1 x.2.1 w)) (law04_ShredOne_Eok K) (law04_ShredOne_Rok K) rfl (Orc.nil _ _ _) (by kernel_rfl) (fun _ _ => by kernel_rfl)
noncomputable def law04_ShredOne_s0_se (K : Nat) : SE := stmtN [(0, .int .i64), (1, .sl)] [(21, .bool)] [(9, 22)] (fun x w => law04_ShredOne_s0 K x.1 x.2.1 w)
theorem law04_ShredOne_s0_se_ok (K : Nat) (R : Rg) (h : subRB [(9, 22)] R = true) : (law04_ShredOne_s0_se K).Ok prog R (cd (bodyOf f7) [1, 0, 0]) := stmtN_ok (Li := [(0, .int .i64), (1, .sl)]) (Lo := [(21, .bool)]) (S := (fun x w => law04_ShredOne_s0 K x.1 x.2.1 w)) (law04_ShredOne_s0_ok K) (subR_of h)
theorem law04_ShredOne_facts : FunFacts prog 7 f7 (bodyOf f7) [(0, .int .i64), (1, .sl)] [(0, 52)] := ⟨func7, by kernel_rfl, by kernel_rfl, by kernel_rfl, by kernel_rfl, by kernel_rfl⟩
theorem law04_ShredOne_calls (K : Nat) {β : Type} (x : TT [(0, .int .i64), (1, .sl)]) (w : World) (k : TR [.bool] → World → Option β) (r : β) (h : law04_ShredOne K x.1 x.2.1 w k = some r) : Calls prog 7 (encA [(0, .int .i64), (1, .sl)] x).toArray w (fun e w3 => ∃ y, e = .returned (resV (encR [.bool] y)) ∧ k y w3 = some r) :=
    mk_funC (O := tabL [([1, 0, 0], law04_ShredOne_s0_se K)]) (Lp := [(0, .int .i64), (1, .sl)]) (Rt := [.bool]) (S := (fun x w k => law04_ShredOne K x.1 x.2.1 w k)) (law04_ShredOne_Eok K) (law04_ShredOne_Rok K) rfl law04_ShredOne_facts (Orc.cons (by kernel_rfl) (law04_ShredOne_s0_se_ok K [(0, 52)] (by kernel_rfl)) (Orc.nil _ _ _)) (fun _ _ _ => by kernel_rfl) x w k r h
noncomputable def law04_ShredOne_ce (K : Nat) : CE := funC [(0, .int .i64), (1, .sl)] [.bool] (fun {_} x w k => law04_ShredOne K x.1 x.2.1 w k)
theorem law04_ShredOne_ok (K : Nat) : (law04_ShredOne_ce K).Ok prog 7 := funC_ok (Rt := [.bool]) (S := (fun {_} x w k => law04_ShredOne K x.1 x.2.1 w k)) law04_ShredOne_facts fun x w k r h => law04_ShredOne_calls K x w k r h

end Go.Sh
